/-
  NARROWER THAN 'FOR EVERY INPUT', by the rows' own cells (each row's printed sentence says how): FnExactEntryOK: laid · FnExactEscapeXml: laid · FnExactMailOK: laid · FnExactFeedOK: laid · FnExactFeedKeys: laid.
  DERIVED. THE GIVEN ROWS OF THIS SEAT. 5 by the template 'for every input the law returns true; each argument reads behind the call as it read before'; 0 by the template 'total and deterministic' (their statements: YteknchhlineciaaDoorTotals.lean).
  GIVEN WITH THE SEED: the statements are not yours to turn. If you find one false, say at which input.
  Laid BY PROGRAM, IN A SANDBOX (cutbox-rows.mjs): the forced cells as the released guide's own fill.sh prints them over the translation e1858619a9ce7d29… (all of the seat's roots in one cut). By AI agents, Wed Nov 11 2026. No macro, syntax, notation, axiom, sorry.
-/
import Derived.Test.YteknchhlineciaaDoorChecked
import GoSem.PinnedTables
import GoSem.Claim
import GoSem.ClaimJoined
import GoSem.ClaimMapViews
import Derived.JoinedTies
import Derived.KernelRfl
namespace Go.Proofs.YteknchhlineciaaDoor
/- THE CELL 'sum', in the pinned program and in every row, IS THE sha256 OF THE DUMP (.gsa) THAT YteknchhlineciaaDoorProg.lean LOADS. Nothing in Lean hashes anything: it is a label: what it is worth is what the hold of that sum in a sandbox is worth. -/
noncomputable def Tryd.pinned : Pinned := { name := "yteknchhlineciaadoor", sum := "e1858619a9ce7d29007780891d840c88e911adf4eaa4a95b2978265b843ec277", checked := Tryd.checked }
namespace Rows
def none {H : Type} : Left H := { results := [], args := [] }

/- WHAT THE LISTED PACKAGE-LEVEL VARIABLES READ AS WHEN THE CALL BEGINS. Each datum BY PROGRAM (the guide's laid-datum.mjs) off the statement by which the dump's own 'gosem.cut.vars' lays the variable. In a bare row this is a premise. The card (YteknchhlineciaaDoorCards.lean) ties it to the program's text. -/
def laid_unicode_utf8_acceptRanges {H : Type} : DataW H := .agg [.agg [.lit (.int .u8 128), .lit (.int .u8 191)], .agg [.lit (.int .u8 160), .lit (.int .u8 191)], .agg [.lit (.int .u8 128), .lit (.int .u8 159)], .agg [.lit (.int .u8 144), .lit (.int .u8 191)], .agg [.lit (.int .u8 128), .lit (.int .u8 143)], .agg [.lit (.int .u8 0), .lit (.int .u8 0)], .agg [.lit (.int .u8 0), .lit (.int .u8 0)], .agg [.lit (.int .u8 0), .lit (.int .u8 0)], .agg [.lit (.int .u8 0), .lit (.int .u8 0)], .agg [.lit (.int .u8 0), .lit (.int .u8 0)], .agg [.lit (.int .u8 0), .lit (.int .u8 0)], .agg [.lit (.int .u8 0), .lit (.int .u8 0)], .agg [.lit (.int .u8 0), .lit (.int .u8 0)], .agg [.lit (.int .u8 0), .lit (.int .u8 0)], .agg [.lit (.int .u8 0), .lit (.int .u8 0)], .agg [.lit (.int .u8 0), .lit (.int .u8 0)]]
/-- One of Go's own tables, pinned by name: the form's constant. -/
def laid_unicode_utf8_first : DataW Unit := Go.Pinned.utf8First

/-- 'laws.FnExactEntryOK': WHATEVER THE INPUT: true; the input reads as it did. -/
def fnExactEntryOKSpec : ChangeSpec := { name := "fnExactEntryOK", fn := fun _ => fun
  | [d] => { results := [.lit (.bool true)], args := [d] }
  | _ => none }
def fnExactEntryOKRow : OpenClaim := { program := "yteknchhlineciaadoor", sum := "e1858619a9ce7d29007780891d840c88e911adf4eaa4a95b2978265b843ec277", func := "loop.example/g00268/laws.FnExactEntryOK", spec := "fnExactEntryOK", inPlace := ["internal/abi.NoEscape", "internal/bytealg.MakeNoZero"], unfollowed := true, recurses := true, named := ["unicode/utf8.first", "unicode/utf8.acceptRanges"], apart := false, laid := [("unicode/utf8.acceptRanges", laid_unicode_utf8_acceptRanges), ("unicode/utf8.first", laid_unicode_utf8_first)] }
def FnExactEntryOKSaid : Prop := fnExactEntryOKRow.holds Tryd.pinned (OpenSpec.ofChange fnExactEntryOKSpec)

/-- ITS FALSE NEIGHBOUR: 'it returns false'. Refute it at one input. -/
def fnExactEntryOKWrong : ChangeSpec := { name := "fnExactEntryOK", fn := fun _ => fun
  | [d] => { results := [.lit (.bool false)], args := [d] }
  | _ => none }
def FnExactEntryOKWrongFalsely : Prop := fnExactEntryOKRow.holds Tryd.pinned (OpenSpec.ofChange fnExactEntryOKWrong)

/-- 'laws.FnExactEscapeXml': WHATEVER THE INPUT: true; the input reads as it did. -/
def fnExactEscapeXmlSpec : ChangeSpec := { name := "fnExactEscapeXml", fn := fun _ => fun
  | [d] => { results := [.lit (.bool true)], args := [d] }
  | _ => none }
def fnExactEscapeXmlRow : OpenClaim := { program := "yteknchhlineciaadoor", sum := "e1858619a9ce7d29007780891d840c88e911adf4eaa4a95b2978265b843ec277", func := "loop.example/g00268/laws.FnExactEscapeXml", spec := "fnExactEscapeXml", inPlace := ["sync/atomic.LoadUint32", "(*internal/sync.Mutex).Lock", "internal/race.Disable", "sync/atomic.CompareAndSwapInt32", "internal/race.Enable", "internal/race.Acquire", "(*internal/sync.Mutex).lockSlow", "internal/sync.runtime_canSpin", "internal/sync.runtime_doSpin", "internal/sync.throw", "internal/sync.runtime_nanotime", "internal/sync.runtime_SemacquireMutex", "sync/atomic.AddInt32", "(*internal/sync.Mutex).Unlock", "internal/race.ReleaseMerge", "(*internal/sync.Mutex).unlockSlow", "internal/sync.fatal", "internal/sync.runtime_Semrelease", "sync/atomic.StoreUint32"], unfollowed := true, recurses := true, named := ["unicode/utf8.first", "unicode/utf8.acceptRanges"], apart := false, laid := [("unicode/utf8.acceptRanges", laid_unicode_utf8_acceptRanges), ("unicode/utf8.first", laid_unicode_utf8_first)] }
def FnExactEscapeXmlSaid : Prop := fnExactEscapeXmlRow.holds Tryd.pinned (OpenSpec.ofChange fnExactEscapeXmlSpec)

/-- ITS FALSE NEIGHBOUR: 'it returns false'. Refute it at one input. -/
def fnExactEscapeXmlWrong : ChangeSpec := { name := "fnExactEscapeXml", fn := fun _ => fun
  | [d] => { results := [.lit (.bool false)], args := [d] }
  | _ => none }
def FnExactEscapeXmlWrongFalsely : Prop := fnExactEscapeXmlRow.holds Tryd.pinned (OpenSpec.ofChange fnExactEscapeXmlWrong)

/-- 'laws.FnExactMailOK': WHATEVER THE INPUT: true; the input reads as it did. -/
def fnExactMailOKSpec : ChangeSpec := { name := "fnExactMailOK", fn := fun _ => fun
  | [d] => { results := [.lit (.bool true)], args := [d] }
  | _ => none }
def fnExactMailOKRow : OpenClaim := { program := "yteknchhlineciaadoor", sum := "e1858619a9ce7d29007780891d840c88e911adf4eaa4a95b2978265b843ec277", func := "loop.example/g00268/laws.FnExactMailOK", spec := "fnExactMailOK", inPlace := ["internal/bytealg.CountString", "internal/bytealg.IndexByteString", "internal/bytealg.IndexString"], named := ["unicode/utf8.first", "unicode/utf8.acceptRanges", "internal/bytealg.MaxLen"], apart := false, laid := [("unicode/utf8.acceptRanges", laid_unicode_utf8_acceptRanges), ("unicode/utf8.first", laid_unicode_utf8_first)] }
def FnExactMailOKSaid : Prop := fnExactMailOKRow.holds Tryd.pinned (OpenSpec.ofChange fnExactMailOKSpec)

/-- ITS FALSE NEIGHBOUR: 'it returns false'. Refute it at one input. -/
def fnExactMailOKWrong : ChangeSpec := { name := "fnExactMailOK", fn := fun _ => fun
  | [d] => { results := [.lit (.bool false)], args := [d] }
  | _ => none }
def FnExactMailOKWrongFalsely : Prop := fnExactMailOKRow.holds Tryd.pinned (OpenSpec.ofChange fnExactMailOKWrong)

/-- 'laws.FnExactFeedOK': WHATEVER THE INPUT: true; the input reads as it did. -/
def fnExactFeedOKSpec : ChangeSpec := { name := "fnExactFeedOK", fn := fun _ => fun
  | [d] => { results := [.lit (.bool true)], args := [d] }
  | _ => none }
def fnExactFeedOKRow : OpenClaim := { program := "yteknchhlineciaadoor", sum := "e1858619a9ce7d29007780891d840c88e911adf4eaa4a95b2978265b843ec277", func := "loop.example/g00268/laws.FnExactFeedOK", spec := "fnExactFeedOK", inPlace := ["internal/abi.NoEscape", "internal/bytealg.MakeNoZero"], unfollowed := true, recurses := true, named := ["unicode/utf8.first", "unicode/utf8.acceptRanges"], apart := false, laid := [("unicode/utf8.acceptRanges", laid_unicode_utf8_acceptRanges), ("unicode/utf8.first", laid_unicode_utf8_first)] }
def FnExactFeedOKSaid : Prop := fnExactFeedOKRow.holds Tryd.pinned (OpenSpec.ofChange fnExactFeedOKSpec)

/-- ITS FALSE NEIGHBOUR: 'it returns false'. Refute it at one input. -/
def fnExactFeedOKWrong : ChangeSpec := { name := "fnExactFeedOK", fn := fun _ => fun
  | [d] => { results := [.lit (.bool false)], args := [d] }
  | _ => none }
def FnExactFeedOKWrongFalsely : Prop := fnExactFeedOKRow.holds Tryd.pinned (OpenSpec.ofChange fnExactFeedOKWrong)

/-- 'laws.FnExactFeedKeys': WHATEVER THE INPUT: true; the input reads as it did. -/
def fnExactFeedKeysSpec : ChangeSpec := { name := "fnExactFeedKeys", fn := fun _ => fun
  | [d] => { results := [.lit (.bool true)], args := [d] }
  | _ => none }
def fnExactFeedKeysRow : OpenClaim := { program := "yteknchhlineciaadoor", sum := "e1858619a9ce7d29007780891d840c88e911adf4eaa4a95b2978265b843ec277", func := "loop.example/g00268/laws.FnExactFeedKeys", spec := "fnExactFeedKeys", inPlace := ["internal/abi.NoEscape", "internal/bytealg.MakeNoZero"], unfollowed := true, recurses := true, named := ["unicode/utf8.first", "unicode/utf8.acceptRanges"], apart := false, laid := [("unicode/utf8.acceptRanges", laid_unicode_utf8_acceptRanges), ("unicode/utf8.first", laid_unicode_utf8_first)] }
def FnExactFeedKeysSaid : Prop := fnExactFeedKeysRow.holds Tryd.pinned (OpenSpec.ofChange fnExactFeedKeysSpec)

/-- ITS FALSE NEIGHBOUR: 'it returns false'. Refute it at one input. -/
def fnExactFeedKeysWrong : ChangeSpec := { name := "fnExactFeedKeys", fn := fun _ => fun
  | [d] => { results := [.lit (.bool false)], args := [d] }
  | _ => none }
def FnExactFeedKeysWrongFalsely : Prop := fnExactFeedKeysRow.holds Tryd.pinned (OpenSpec.ofChange fnExactFeedKeysWrong)

/- THE SECOND FORM. 'bulk': how many values and letters a reading holds, each counted each time it is reached (what is shared counts as often as it is met; a slice's spare places count too). A statement '..UptoSaid' is the law's where the arguments, and the package variables that the reading takes, are together of bulk at most 1048576: NARROWER than '..Said'. Prove '..Said' where nothing that the law and all that it calls make is longer than what came in: it says more and counts as full. Else prove '..UptoSaid'. A law counts once. -/
mutual
def uptoBulk {H : Type} : DataW H → Nat
  | .lit (.string bytes) => bytes.length + 1
  | .lit _ => 1
  | .nil => 1
  | .ptr d => uptoBulk d + 1
  | .slice elems spare => uptoBulkAll elems + uptoBulkAll spare + 1
  | .agg parts => uptoBulkAll parts + 1
  | .iface _ d => uptoBulk d + 1
  | .map entries => uptoBulkEntries entries + 1
  | .held _ => 1
def uptoBulkAll {H : Type} : List (DataW H) → Nat
  | [] => 0
  | d :: r => uptoBulk d + uptoBulkAll r
def uptoBulkEntries {H : Type} : List (Lit × DataW H) → Nat
  | [] => 0
  | x :: r => uptoBulkEntry x + uptoBulkEntries r
def uptoBulkEntry {H : Type} : Lit × DataW H → Nat
  | (.string bytes, d) => bytes.length + uptoBulk d + 1
  | (_, d) => uptoBulk d + 1
 end
def uptoSmall : (H : Type) → List (DataW H) → Bool := fun _ ds => decide (uptoBulkAll ds ≤ 1048576)
def OpenSpec.upto (s : _root_.Go.ChangeSpec) : _root_.Go.OpenSpec := { _root_.Go.OpenSpec.ofChange s with cond := some uptoSmall }

/-- 'laws.FnExactEntryOK', WHERE WHAT IT READS IS OF BULK AT MOST 1048576: true; the input reads as it did. -/
def fnExactEntryOKUptoRow : OpenClaim := { program := "yteknchhlineciaadoor", sum := "e1858619a9ce7d29007780891d840c88e911adf4eaa4a95b2978265b843ec277", func := "loop.example/g00268/laws.FnExactEntryOK", spec := "fnExactEntryOK", inPlace := ["internal/abi.NoEscape", "internal/bytealg.MakeNoZero"], unfollowed := true, recurses := true, named := ["unicode/utf8.first", "unicode/utf8.acceptRanges"], apart := false, laid := [("unicode/utf8.acceptRanges", laid_unicode_utf8_acceptRanges), ("unicode/utf8.first", laid_unicode_utf8_first)], narrowed := true }
def FnExactEntryOKUptoSaid : Prop := fnExactEntryOKUptoRow.holds Tryd.pinned (OpenSpec.upto fnExactEntryOKSpec)

/-- 'laws.FnExactEscapeXml', WHERE WHAT IT READS IS OF BULK AT MOST 1048576: true; the input reads as it did. -/
def fnExactEscapeXmlUptoRow : OpenClaim := { program := "yteknchhlineciaadoor", sum := "e1858619a9ce7d29007780891d840c88e911adf4eaa4a95b2978265b843ec277", func := "loop.example/g00268/laws.FnExactEscapeXml", spec := "fnExactEscapeXml", inPlace := ["sync/atomic.LoadUint32", "(*internal/sync.Mutex).Lock", "internal/race.Disable", "sync/atomic.CompareAndSwapInt32", "internal/race.Enable", "internal/race.Acquire", "(*internal/sync.Mutex).lockSlow", "internal/sync.runtime_canSpin", "internal/sync.runtime_doSpin", "internal/sync.throw", "internal/sync.runtime_nanotime", "internal/sync.runtime_SemacquireMutex", "sync/atomic.AddInt32", "(*internal/sync.Mutex).Unlock", "internal/race.ReleaseMerge", "(*internal/sync.Mutex).unlockSlow", "internal/sync.fatal", "internal/sync.runtime_Semrelease", "sync/atomic.StoreUint32"], unfollowed := true, recurses := true, named := ["unicode/utf8.first", "unicode/utf8.acceptRanges"], apart := false, laid := [("unicode/utf8.acceptRanges", laid_unicode_utf8_acceptRanges), ("unicode/utf8.first", laid_unicode_utf8_first)], narrowed := true }
def FnExactEscapeXmlUptoSaid : Prop := fnExactEscapeXmlUptoRow.holds Tryd.pinned (OpenSpec.upto fnExactEscapeXmlSpec)

/-- 'laws.FnExactMailOK', WHERE WHAT IT READS IS OF BULK AT MOST 1048576: true; the input reads as it did. -/
def fnExactMailOKUptoRow : OpenClaim := { program := "yteknchhlineciaadoor", sum := "e1858619a9ce7d29007780891d840c88e911adf4eaa4a95b2978265b843ec277", func := "loop.example/g00268/laws.FnExactMailOK", spec := "fnExactMailOK", inPlace := ["internal/bytealg.CountString", "internal/bytealg.IndexByteString", "internal/bytealg.IndexString"], named := ["unicode/utf8.first", "unicode/utf8.acceptRanges", "internal/bytealg.MaxLen"], apart := false, laid := [("unicode/utf8.acceptRanges", laid_unicode_utf8_acceptRanges), ("unicode/utf8.first", laid_unicode_utf8_first)], narrowed := true }
def FnExactMailOKUptoSaid : Prop := fnExactMailOKUptoRow.holds Tryd.pinned (OpenSpec.upto fnExactMailOKSpec)

/-- 'laws.FnExactFeedOK', WHERE WHAT IT READS IS OF BULK AT MOST 1048576: true; the input reads as it did. -/
def fnExactFeedOKUptoRow : OpenClaim := { program := "yteknchhlineciaadoor", sum := "e1858619a9ce7d29007780891d840c88e911adf4eaa4a95b2978265b843ec277", func := "loop.example/g00268/laws.FnExactFeedOK", spec := "fnExactFeedOK", inPlace := ["internal/abi.NoEscape", "internal/bytealg.MakeNoZero"], unfollowed := true, recurses := true, named := ["unicode/utf8.first", "unicode/utf8.acceptRanges"], apart := false, laid := [("unicode/utf8.acceptRanges", laid_unicode_utf8_acceptRanges), ("unicode/utf8.first", laid_unicode_utf8_first)], narrowed := true }
def FnExactFeedOKUptoSaid : Prop := fnExactFeedOKUptoRow.holds Tryd.pinned (OpenSpec.upto fnExactFeedOKSpec)

/-- 'laws.FnExactFeedKeys', WHERE WHAT IT READS IS OF BULK AT MOST 1048576: true; the input reads as it did. -/
def fnExactFeedKeysUptoRow : OpenClaim := { program := "yteknchhlineciaadoor", sum := "e1858619a9ce7d29007780891d840c88e911adf4eaa4a95b2978265b843ec277", func := "loop.example/g00268/laws.FnExactFeedKeys", spec := "fnExactFeedKeys", inPlace := ["internal/abi.NoEscape", "internal/bytealg.MakeNoZero"], unfollowed := true, recurses := true, named := ["unicode/utf8.first", "unicode/utf8.acceptRanges"], apart := false, laid := [("unicode/utf8.acceptRanges", laid_unicode_utf8_acceptRanges), ("unicode/utf8.first", laid_unicode_utf8_first)], narrowed := true }
def FnExactFeedKeysUptoSaid : Prop := fnExactFeedKeysUptoRow.holds Tryd.pinned (OpenSpec.upto fnExactFeedKeysSpec)

end Rows
end Go.Proofs.YteknchhlineciaaDoor
