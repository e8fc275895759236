/-
  NARROWER THAN 'FOR EVERY INPUT', by the rows' own cells (each row's printed sentence says how): FnExactQuotedText: laid · FnQuoted: laid · FnExactLongestLine: laid · FnExactSafeValue: laid · FnExactEncodeWords: laid · FnExactDecodeWords: laid · FnExactFoldHeader: laid · FnExactUnfoldHeader: laid · FnFolds: laid.
  DERIVED. THE GIVEN ROWS OF THIS SEAT. 9 by the template 'for every input the law returns true; each argument reads behind the call as it read before'; 0 by the template 'total and deterministic' (their statements: YtebmhicdlamnbaaDoorTotals.lean).
  GIVEN WITH THE SEED: the statements are not yours to turn. If you find one false, say at which input.
  Laid BY PROGRAM, IN A SANDBOX (cutbox-rows.mjs): the forced cells as the released guide's own fill.sh prints them over the translation 69aff92f1f8de4e3… (all of the seat's roots in one cut). By AI agents, Wed Nov 11 2026. No macro, syntax, notation, axiom, sorry.
-/
import Derived.Test.YtebmhicdlamnbaaDoorChecked
import GoSem.PinnedTables
import GoSem.Claim
import GoSem.ClaimJoined
import GoSem.ClaimMapViews
import Derived.JoinedTies
import Derived.KernelRfl
namespace Go.Proofs.YtebmhicdlamnbaaDoor
/- THE CELL 'sum', in the pinned program and in every row, IS THE sha256 OF THE DUMP (.gsa) THAT YtebmhicdlamnbaaDoorProg.lean LOADS. Nothing in Lean hashes anything: it is a label: what it is worth is what the hold of that sum in a sandbox is worth. -/
noncomputable def Tryd.pinned : Pinned := { name := "ytebmhicdlamnbaadoor", sum := "69aff92f1f8de4e3f25951078a590b43e425af219afd4130c1b0d4eae61ea69e", checked := Tryd.checked }
namespace Rows
def none {H : Type} : Left H := { results := [], args := [] }

/- WHAT THE LISTED PACKAGE-LEVEL VARIABLES READ AS WHEN THE CALL BEGINS. Each datum BY PROGRAM (the guide's laid-datum.mjs) off the statement by which the dump's own 'gosem.cut.vars' lays the variable. In a bare row this is a premise. The card (YtebmhicdlamnbaaDoorCards.lean) ties it to the program's text. -/
def laid_unicode_utf8_acceptRanges {H : Type} : DataW H := .agg [.agg [.lit (.int .u8 128), .lit (.int .u8 191)], .agg [.lit (.int .u8 160), .lit (.int .u8 191)], .agg [.lit (.int .u8 128), .lit (.int .u8 159)], .agg [.lit (.int .u8 144), .lit (.int .u8 191)], .agg [.lit (.int .u8 128), .lit (.int .u8 143)], .agg [.lit (.int .u8 0), .lit (.int .u8 0)], .agg [.lit (.int .u8 0), .lit (.int .u8 0)], .agg [.lit (.int .u8 0), .lit (.int .u8 0)], .agg [.lit (.int .u8 0), .lit (.int .u8 0)], .agg [.lit (.int .u8 0), .lit (.int .u8 0)], .agg [.lit (.int .u8 0), .lit (.int .u8 0)], .agg [.lit (.int .u8 0), .lit (.int .u8 0)], .agg [.lit (.int .u8 0), .lit (.int .u8 0)], .agg [.lit (.int .u8 0), .lit (.int .u8 0)], .agg [.lit (.int .u8 0), .lit (.int .u8 0)], .agg [.lit (.int .u8 0), .lit (.int .u8 0)]]
/-- One of Go's own tables, pinned by name: the form's constant. -/
def laid_unicode_utf8_first : DataW Unit := Go.Pinned.utf8First

/-- 'laws.FnExactQuotedText': WHATEVER THE INPUT: true; the input reads as it did. -/
def fnExactQuotedTextSpec : ChangeSpec := { name := "fnExactQuotedText", fn := fun _ => fun
  | [d] => { results := [.lit (.bool true)], args := [d] }
  | _ => none }
def fnExactQuotedTextRow : OpenClaim := { program := "ytebmhicdlamnbaadoor", sum := "69aff92f1f8de4e3f25951078a590b43e425af219afd4130c1b0d4eae61ea69e", func := "loop.example/g00268/laws.FnExactQuotedText", spec := "fnExactQuotedText", inPlace := ["internal/bytealg.Count", "internal/bytealg.IndexByte", "internal/bytealg.Index", "internal/abi.NoEscape"], named := ["unicode/utf8.first", "unicode/utf8.acceptRanges", "internal/bytealg.MaxLen"], apart := false, laid := [("unicode/utf8.acceptRanges", laid_unicode_utf8_acceptRanges), ("unicode/utf8.first", laid_unicode_utf8_first)] }
def FnExactQuotedTextSaid : Prop := fnExactQuotedTextRow.holds Tryd.pinned (OpenSpec.ofChange fnExactQuotedTextSpec)

/-- ITS FALSE NEIGHBOUR: 'it returns false'. Refute it at one input. -/
def fnExactQuotedTextWrong : ChangeSpec := { name := "fnExactQuotedText", fn := fun _ => fun
  | [d] => { results := [.lit (.bool false)], args := [d] }
  | _ => none }
def FnExactQuotedTextWrongFalsely : Prop := fnExactQuotedTextRow.holds Tryd.pinned (OpenSpec.ofChange fnExactQuotedTextWrong)

/-- 'laws.FnQuoted': WHATEVER THE INPUT: true; the input reads as it did. -/
def fnQuotedSpec : ChangeSpec := { name := "fnQuoted", fn := fun _ => fun
  | [d] => { results := [.lit (.bool true)], args := [d] }
  | _ => none }
def fnQuotedRow : OpenClaim := { program := "ytebmhicdlamnbaadoor", sum := "69aff92f1f8de4e3f25951078a590b43e425af219afd4130c1b0d4eae61ea69e", func := "loop.example/g00268/laws.FnQuoted", spec := "fnQuoted", inPlace := ["internal/bytealg.Count", "internal/bytealg.IndexByte", "internal/bytealg.Index", "internal/abi.NoEscape", "internal/bytealg.IndexByteString", "internal/bytealg.CountString", "internal/bytealg.IndexString"], named := ["unicode/utf8.first", "unicode/utf8.acceptRanges", "internal/bytealg.MaxLen"], apart := false, laid := [("unicode/utf8.acceptRanges", laid_unicode_utf8_acceptRanges), ("unicode/utf8.first", laid_unicode_utf8_first)] }
def FnQuotedSaid : Prop := fnQuotedRow.holds Tryd.pinned (OpenSpec.ofChange fnQuotedSpec)

/-- ITS FALSE NEIGHBOUR: 'it returns false'. Refute it at one input. -/
def fnQuotedWrong : ChangeSpec := { name := "fnQuoted", fn := fun _ => fun
  | [d] => { results := [.lit (.bool false)], args := [d] }
  | _ => none }
def FnQuotedWrongFalsely : Prop := fnQuotedRow.holds Tryd.pinned (OpenSpec.ofChange fnQuotedWrong)

/-- 'laws.FnExactLongestLine': WHATEVER THE INPUT: true; the input reads as it did. -/
def fnExactLongestLineSpec : ChangeSpec := { name := "fnExactLongestLine", fn := fun _ => fun
  | [d] => { results := [.lit (.bool true)], args := [d] }
  | _ => none }
def fnExactLongestLineRow : OpenClaim := { program := "ytebmhicdlamnbaadoor", sum := "69aff92f1f8de4e3f25951078a590b43e425af219afd4130c1b0d4eae61ea69e", func := "loop.example/g00268/laws.FnExactLongestLine", spec := "fnExactLongestLine", inPlace := ["internal/bytealg.CountString", "internal/bytealg.IndexByteString", "internal/bytealg.IndexString"], named := ["unicode/utf8.first", "unicode/utf8.acceptRanges", "internal/bytealg.MaxLen"], apart := false, laid := [("unicode/utf8.acceptRanges", laid_unicode_utf8_acceptRanges), ("unicode/utf8.first", laid_unicode_utf8_first)] }
def FnExactLongestLineSaid : Prop := fnExactLongestLineRow.holds Tryd.pinned (OpenSpec.ofChange fnExactLongestLineSpec)

/-- ITS FALSE NEIGHBOUR: 'it returns false'. Refute it at one input. -/
def fnExactLongestLineWrong : ChangeSpec := { name := "fnExactLongestLine", fn := fun _ => fun
  | [d] => { results := [.lit (.bool false)], args := [d] }
  | _ => none }
def FnExactLongestLineWrongFalsely : Prop := fnExactLongestLineRow.holds Tryd.pinned (OpenSpec.ofChange fnExactLongestLineWrong)

/-- 'laws.FnExactSafeValue': WHATEVER THE INPUT: true; the input reads as it did. -/
def fnExactSafeValueSpec : ChangeSpec := { name := "fnExactSafeValue", fn := fun _ => fun
  | [d] => { results := [.lit (.bool true)], args := [d] }
  | _ => none }
def fnExactSafeValueRow : OpenClaim := { program := "ytebmhicdlamnbaadoor", sum := "69aff92f1f8de4e3f25951078a590b43e425af219afd4130c1b0d4eae61ea69e", func := "loop.example/g00268/laws.FnExactSafeValue", spec := "fnExactSafeValue", inPlace := ["internal/bytealg.CountString", "internal/bytealg.IndexByteString", "internal/bytealg.IndexString"], named := ["unicode/utf8.first", "unicode/utf8.acceptRanges", "internal/bytealg.MaxLen"], apart := false, laid := [("unicode/utf8.acceptRanges", laid_unicode_utf8_acceptRanges), ("unicode/utf8.first", laid_unicode_utf8_first)] }
def FnExactSafeValueSaid : Prop := fnExactSafeValueRow.holds Tryd.pinned (OpenSpec.ofChange fnExactSafeValueSpec)

/-- ITS FALSE NEIGHBOUR: 'it returns false'. Refute it at one input. -/
def fnExactSafeValueWrong : ChangeSpec := { name := "fnExactSafeValue", fn := fun _ => fun
  | [d] => { results := [.lit (.bool false)], args := [d] }
  | _ => none }
def FnExactSafeValueWrongFalsely : Prop := fnExactSafeValueRow.holds Tryd.pinned (OpenSpec.ofChange fnExactSafeValueWrong)

/-- 'laws.FnExactEncodeWords': WHATEVER THE INPUT: true; the input reads as it did. -/
def fnExactEncodeWordsSpec : ChangeSpec := { name := "fnExactEncodeWords", fn := fun _ => fun
  | [d] => { results := [.lit (.bool true)], args := [d] }
  | _ => none }
def fnExactEncodeWordsRow : OpenClaim := { program := "ytebmhicdlamnbaadoor", sum := "69aff92f1f8de4e3f25951078a590b43e425af219afd4130c1b0d4eae61ea69e", func := "loop.example/g00268/laws.FnExactEncodeWords", spec := "fnExactEncodeWords", inPlace := ["internal/bytealg.CountString", "internal/bytealg.IndexByteString", "internal/bytealg.IndexString", "internal/abi.NoEscape", "internal/bytealg.MakeNoZero"], named := ["unicode/utf8.first", "unicode/utf8.acceptRanges", "internal/bytealg.MaxLen"], apart := false, laid := [("unicode/utf8.acceptRanges", laid_unicode_utf8_acceptRanges), ("unicode/utf8.first", laid_unicode_utf8_first)] }
def FnExactEncodeWordsSaid : Prop := fnExactEncodeWordsRow.holds Tryd.pinned (OpenSpec.ofChange fnExactEncodeWordsSpec)

/-- ITS FALSE NEIGHBOUR: 'it returns false'. Refute it at one input. -/
def fnExactEncodeWordsWrong : ChangeSpec := { name := "fnExactEncodeWords", fn := fun _ => fun
  | [d] => { results := [.lit (.bool false)], args := [d] }
  | _ => none }
def FnExactEncodeWordsWrongFalsely : Prop := fnExactEncodeWordsRow.holds Tryd.pinned (OpenSpec.ofChange fnExactEncodeWordsWrong)

/-- 'laws.FnExactDecodeWords': WHATEVER THE INPUT: true; the input reads as it did. -/
def fnExactDecodeWordsSpec : ChangeSpec := { name := "fnExactDecodeWords", fn := fun _ => fun
  | [d] => { results := [.lit (.bool true)], args := [d] }
  | _ => none }
def fnExactDecodeWordsRow : OpenClaim := { program := "ytebmhicdlamnbaadoor", sum := "69aff92f1f8de4e3f25951078a590b43e425af219afd4130c1b0d4eae61ea69e", func := "loop.example/g00268/laws.FnExactDecodeWords", spec := "fnExactDecodeWords", inPlace := ["internal/bytealg.CountString", "internal/bytealg.IndexByteString", "internal/bytealg.IndexString", "internal/abi.NoEscape"], named := ["unicode/utf8.first", "unicode/utf8.acceptRanges", "internal/bytealg.MaxLen"], apart := false, laid := [("unicode/utf8.acceptRanges", laid_unicode_utf8_acceptRanges), ("unicode/utf8.first", laid_unicode_utf8_first)] }
def FnExactDecodeWordsSaid : Prop := fnExactDecodeWordsRow.holds Tryd.pinned (OpenSpec.ofChange fnExactDecodeWordsSpec)

/-- ITS FALSE NEIGHBOUR: 'it returns false'. Refute it at one input. -/
def fnExactDecodeWordsWrong : ChangeSpec := { name := "fnExactDecodeWords", fn := fun _ => fun
  | [d] => { results := [.lit (.bool false)], args := [d] }
  | _ => none }
def FnExactDecodeWordsWrongFalsely : Prop := fnExactDecodeWordsRow.holds Tryd.pinned (OpenSpec.ofChange fnExactDecodeWordsWrong)

/-- 'laws.FnExactFoldHeader': WHATEVER THE INPUT: true; the input reads as it did. -/
def fnExactFoldHeaderSpec : ChangeSpec := { name := "fnExactFoldHeader", fn := fun _ => fun
  | [d1, d2] => { results := [.lit (.bool true)], args := [d1, d2] }
  | _ => none }
def fnExactFoldHeaderRow : OpenClaim := { program := "ytebmhicdlamnbaadoor", sum := "69aff92f1f8de4e3f25951078a590b43e425af219afd4130c1b0d4eae61ea69e", func := "loop.example/g00268/laws.FnExactFoldHeader", spec := "fnExactFoldHeader", inPlace := ["internal/bytealg.IndexByteString", "internal/bytealg.IndexString", "internal/bytealg.CountString", "internal/abi.NoEscape"], named := ["internal/bytealg.MaxLen", "unicode/utf8.first", "unicode/utf8.acceptRanges"], apart := false, laid := [("unicode/utf8.acceptRanges", laid_unicode_utf8_acceptRanges), ("unicode/utf8.first", laid_unicode_utf8_first)] }
def FnExactFoldHeaderSaid : Prop := fnExactFoldHeaderRow.holds Tryd.pinned (OpenSpec.ofChange fnExactFoldHeaderSpec)

/-- ITS FALSE NEIGHBOUR: 'it returns false'. Refute it at one input. -/
def fnExactFoldHeaderWrong : ChangeSpec := { name := "fnExactFoldHeader", fn := fun _ => fun
  | [d1, d2] => { results := [.lit (.bool false)], args := [d1, d2] }
  | _ => none }
def FnExactFoldHeaderWrongFalsely : Prop := fnExactFoldHeaderRow.holds Tryd.pinned (OpenSpec.ofChange fnExactFoldHeaderWrong)

/-- 'laws.FnExactUnfoldHeader': WHATEVER THE INPUT: true; the input reads as it did. -/
def fnExactUnfoldHeaderSpec : ChangeSpec := { name := "fnExactUnfoldHeader", fn := fun _ => fun
  | [d] => { results := [.lit (.bool true)], args := [d] }
  | _ => none }
def fnExactUnfoldHeaderRow : OpenClaim := { program := "ytebmhicdlamnbaadoor", sum := "69aff92f1f8de4e3f25951078a590b43e425af219afd4130c1b0d4eae61ea69e", func := "loop.example/g00268/laws.FnExactUnfoldHeader", spec := "fnExactUnfoldHeader", inPlace := ["internal/bytealg.IndexByteString", "internal/bytealg.IndexString", "internal/bytealg.CountString", "internal/abi.NoEscape", "internal/bytealg.MakeNoZero"], named := ["internal/bytealg.MaxLen", "unicode/utf8.first", "unicode/utf8.acceptRanges"], apart := false, laid := [("unicode/utf8.acceptRanges", laid_unicode_utf8_acceptRanges), ("unicode/utf8.first", laid_unicode_utf8_first)] }
def FnExactUnfoldHeaderSaid : Prop := fnExactUnfoldHeaderRow.holds Tryd.pinned (OpenSpec.ofChange fnExactUnfoldHeaderSpec)

/-- ITS FALSE NEIGHBOUR: 'it returns false'. Refute it at one input. -/
def fnExactUnfoldHeaderWrong : ChangeSpec := { name := "fnExactUnfoldHeader", fn := fun _ => fun
  | [d] => { results := [.lit (.bool false)], args := [d] }
  | _ => none }
def FnExactUnfoldHeaderWrongFalsely : Prop := fnExactUnfoldHeaderRow.holds Tryd.pinned (OpenSpec.ofChange fnExactUnfoldHeaderWrong)

/-- 'laws.FnFolds': WHATEVER THE INPUT: true; the input reads as it did. -/
def fnFoldsSpec : ChangeSpec := { name := "fnFolds", fn := fun _ => fun
  | [d1, d2] => { results := [.lit (.bool true)], args := [d1, d2] }
  | _ => none }
def fnFoldsRow : OpenClaim := { program := "ytebmhicdlamnbaadoor", sum := "69aff92f1f8de4e3f25951078a590b43e425af219afd4130c1b0d4eae61ea69e", func := "loop.example/g00268/laws.FnFolds", spec := "fnFolds", inPlace := ["internal/bytealg.IndexByteString", "internal/bytealg.IndexString", "internal/bytealg.CountString", "internal/abi.NoEscape", "internal/bytealg.MakeNoZero"], named := ["internal/bytealg.MaxLen", "unicode/utf8.first", "unicode/utf8.acceptRanges"], apart := false, laid := [("unicode/utf8.acceptRanges", laid_unicode_utf8_acceptRanges), ("unicode/utf8.first", laid_unicode_utf8_first)] }
def FnFoldsSaid : Prop := fnFoldsRow.holds Tryd.pinned (OpenSpec.ofChange fnFoldsSpec)

/-- ITS FALSE NEIGHBOUR: 'it returns false'. Refute it at one input. -/
def fnFoldsWrong : ChangeSpec := { name := "fnFolds", fn := fun _ => fun
  | [d1, d2] => { results := [.lit (.bool false)], args := [d1, d2] }
  | _ => none }
def FnFoldsWrongFalsely : Prop := fnFoldsRow.holds Tryd.pinned (OpenSpec.ofChange fnFoldsWrong)

/- THE SECOND FORM. 'bulk': how many values and letters a reading holds, each counted each time it is reached (what is shared counts as often as it is met; a slice's spare places count too). A statement '..UptoSaid' is the law's where the arguments, and the package variables that the reading takes, are together of bulk at most 1048576: NARROWER than '..Said'. Prove '..Said' where nothing that the law and all that it calls make is longer than what came in: it says more and counts as full. Else prove '..UptoSaid'. A law counts once. -/
mutual
def uptoBulk {H : Type} : DataW H → Nat
  | .lit (.string bytes) => bytes.length + 1
  | .lit _ => 1
  | .nil => 1
  | .ptr d => uptoBulk d + 1
  | .slice elems spare => uptoBulkAll elems + uptoBulkAll spare + 1
  | .agg parts => uptoBulkAll parts + 1
  | .iface _ d => uptoBulk d + 1
  | .map entries => uptoBulkEntries entries + 1
  | .held _ => 1
def uptoBulkAll {H : Type} : List (DataW H) → Nat
  | [] => 0
  | d :: r => uptoBulk d + uptoBulkAll r
def uptoBulkEntries {H : Type} : List (Lit × DataW H) → Nat
  | [] => 0
  | x :: r => uptoBulkEntry x + uptoBulkEntries r
def uptoBulkEntry {H : Type} : Lit × DataW H → Nat
  | (.string bytes, d) => bytes.length + uptoBulk d + 1
  | (_, d) => uptoBulk d + 1
 end
def uptoSmall : (H : Type) → List (DataW H) → Bool := fun _ ds => decide (uptoBulkAll ds ≤ 1048576)
def OpenSpec.upto (s : _root_.Go.ChangeSpec) : _root_.Go.OpenSpec := { _root_.Go.OpenSpec.ofChange s with cond := some uptoSmall }

/-- 'laws.FnExactQuotedText', WHERE WHAT IT READS IS OF BULK AT MOST 1048576: true; the input reads as it did. -/
def fnExactQuotedTextUptoRow : OpenClaim := { program := "ytebmhicdlamnbaadoor", sum := "69aff92f1f8de4e3f25951078a590b43e425af219afd4130c1b0d4eae61ea69e", func := "loop.example/g00268/laws.FnExactQuotedText", spec := "fnExactQuotedText", inPlace := ["internal/bytealg.Count", "internal/bytealg.IndexByte", "internal/bytealg.Index", "internal/abi.NoEscape"], named := ["unicode/utf8.first", "unicode/utf8.acceptRanges", "internal/bytealg.MaxLen"], apart := false, laid := [("unicode/utf8.acceptRanges", laid_unicode_utf8_acceptRanges), ("unicode/utf8.first", laid_unicode_utf8_first)], narrowed := true }
def FnExactQuotedTextUptoSaid : Prop := fnExactQuotedTextUptoRow.holds Tryd.pinned (OpenSpec.upto fnExactQuotedTextSpec)

/-- 'laws.FnQuoted', WHERE WHAT IT READS IS OF BULK AT MOST 1048576: true; the input reads as it did. -/
def fnQuotedUptoRow : OpenClaim := { program := "ytebmhicdlamnbaadoor", sum := "69aff92f1f8de4e3f25951078a590b43e425af219afd4130c1b0d4eae61ea69e", func := "loop.example/g00268/laws.FnQuoted", spec := "fnQuoted", inPlace := ["internal/bytealg.Count", "internal/bytealg.IndexByte", "internal/bytealg.Index", "internal/abi.NoEscape", "internal/bytealg.IndexByteString", "internal/bytealg.CountString", "internal/bytealg.IndexString"], named := ["unicode/utf8.first", "unicode/utf8.acceptRanges", "internal/bytealg.MaxLen"], apart := false, laid := [("unicode/utf8.acceptRanges", laid_unicode_utf8_acceptRanges), ("unicode/utf8.first", laid_unicode_utf8_first)], narrowed := true }
def FnQuotedUptoSaid : Prop := fnQuotedUptoRow.holds Tryd.pinned (OpenSpec.upto fnQuotedSpec)

/-- 'laws.FnExactLongestLine', WHERE WHAT IT READS IS OF BULK AT MOST 1048576: true; the input reads as it did. -/
def fnExactLongestLineUptoRow : OpenClaim := { program := "ytebmhicdlamnbaadoor", sum := "69aff92f1f8de4e3f25951078a590b43e425af219afd4130c1b0d4eae61ea69e", func := "loop.example/g00268/laws.FnExactLongestLine", spec := "fnExactLongestLine", inPlace := ["internal/bytealg.CountString", "internal/bytealg.IndexByteString", "internal/bytealg.IndexString"], named := ["unicode/utf8.first", "unicode/utf8.acceptRanges", "internal/bytealg.MaxLen"], apart := false, laid := [("unicode/utf8.acceptRanges", laid_unicode_utf8_acceptRanges), ("unicode/utf8.first", laid_unicode_utf8_first)], narrowed := true }
def FnExactLongestLineUptoSaid : Prop := fnExactLongestLineUptoRow.holds Tryd.pinned (OpenSpec.upto fnExactLongestLineSpec)

/-- 'laws.FnExactSafeValue', WHERE WHAT IT READS IS OF BULK AT MOST 1048576: true; the input reads as it did. -/
def fnExactSafeValueUptoRow : OpenClaim := { program := "ytebmhicdlamnbaadoor", sum := "69aff92f1f8de4e3f25951078a590b43e425af219afd4130c1b0d4eae61ea69e", func := "loop.example/g00268/laws.FnExactSafeValue", spec := "fnExactSafeValue", inPlace := ["internal/bytealg.CountString", "internal/bytealg.IndexByteString", "internal/bytealg.IndexString"], named := ["unicode/utf8.first", "unicode/utf8.acceptRanges", "internal/bytealg.MaxLen"], apart := false, laid := [("unicode/utf8.acceptRanges", laid_unicode_utf8_acceptRanges), ("unicode/utf8.first", laid_unicode_utf8_first)], narrowed := true }
def FnExactSafeValueUptoSaid : Prop := fnExactSafeValueUptoRow.holds Tryd.pinned (OpenSpec.upto fnExactSafeValueSpec)

/-- 'laws.FnExactEncodeWords', WHERE WHAT IT READS IS OF BULK AT MOST 1048576: true; the input reads as it did. -/
def fnExactEncodeWordsUptoRow : OpenClaim := { program := "ytebmhicdlamnbaadoor", sum := "69aff92f1f8de4e3f25951078a590b43e425af219afd4130c1b0d4eae61ea69e", func := "loop.example/g00268/laws.FnExactEncodeWords", spec := "fnExactEncodeWords", inPlace := ["internal/bytealg.CountString", "internal/bytealg.IndexByteString", "internal/bytealg.IndexString", "internal/abi.NoEscape", "internal/bytealg.MakeNoZero"], named := ["unicode/utf8.first", "unicode/utf8.acceptRanges", "internal/bytealg.MaxLen"], apart := false, laid := [("unicode/utf8.acceptRanges", laid_unicode_utf8_acceptRanges), ("unicode/utf8.first", laid_unicode_utf8_first)], narrowed := true }
def FnExactEncodeWordsUptoSaid : Prop := fnExactEncodeWordsUptoRow.holds Tryd.pinned (OpenSpec.upto fnExactEncodeWordsSpec)

/-- 'laws.FnExactDecodeWords', WHERE WHAT IT READS IS OF BULK AT MOST 1048576: true; the input reads as it did. -/
def fnExactDecodeWordsUptoRow : OpenClaim := { program := "ytebmhicdlamnbaadoor", sum := "69aff92f1f8de4e3f25951078a590b43e425af219afd4130c1b0d4eae61ea69e", func := "loop.example/g00268/laws.FnExactDecodeWords", spec := "fnExactDecodeWords", inPlace := ["internal/bytealg.CountString", "internal/bytealg.IndexByteString", "internal/bytealg.IndexString", "internal/abi.NoEscape"], named := ["unicode/utf8.first", "unicode/utf8.acceptRanges", "internal/bytealg.MaxLen"], apart := false, laid := [("unicode/utf8.acceptRanges", laid_unicode_utf8_acceptRanges), ("unicode/utf8.first", laid_unicode_utf8_first)], narrowed := true }
def FnExactDecodeWordsUptoSaid : Prop := fnExactDecodeWordsUptoRow.holds Tryd.pinned (OpenSpec.upto fnExactDecodeWordsSpec)

/-- 'laws.FnExactFoldHeader', WHERE WHAT IT READS IS OF BULK AT MOST 1048576: true; the input reads as it did. -/
def fnExactFoldHeaderUptoRow : OpenClaim := { program := "ytebmhicdlamnbaadoor", sum := "69aff92f1f8de4e3f25951078a590b43e425af219afd4130c1b0d4eae61ea69e", func := "loop.example/g00268/laws.FnExactFoldHeader", spec := "fnExactFoldHeader", inPlace := ["internal/bytealg.IndexByteString", "internal/bytealg.IndexString", "internal/bytealg.CountString", "internal/abi.NoEscape"], named := ["internal/bytealg.MaxLen", "unicode/utf8.first", "unicode/utf8.acceptRanges"], apart := false, laid := [("unicode/utf8.acceptRanges", laid_unicode_utf8_acceptRanges), ("unicode/utf8.first", laid_unicode_utf8_first)], narrowed := true }
def FnExactFoldHeaderUptoSaid : Prop := fnExactFoldHeaderUptoRow.holds Tryd.pinned (OpenSpec.upto fnExactFoldHeaderSpec)

/-- 'laws.FnExactUnfoldHeader', WHERE WHAT IT READS IS OF BULK AT MOST 1048576: true; the input reads as it did. -/
def fnExactUnfoldHeaderUptoRow : OpenClaim := { program := "ytebmhicdlamnbaadoor", sum := "69aff92f1f8de4e3f25951078a590b43e425af219afd4130c1b0d4eae61ea69e", func := "loop.example/g00268/laws.FnExactUnfoldHeader", spec := "fnExactUnfoldHeader", inPlace := ["internal/bytealg.IndexByteString", "internal/bytealg.IndexString", "internal/bytealg.CountString", "internal/abi.NoEscape", "internal/bytealg.MakeNoZero"], named := ["internal/bytealg.MaxLen", "unicode/utf8.first", "unicode/utf8.acceptRanges"], apart := false, laid := [("unicode/utf8.acceptRanges", laid_unicode_utf8_acceptRanges), ("unicode/utf8.first", laid_unicode_utf8_first)], narrowed := true }
def FnExactUnfoldHeaderUptoSaid : Prop := fnExactUnfoldHeaderUptoRow.holds Tryd.pinned (OpenSpec.upto fnExactUnfoldHeaderSpec)

/-- 'laws.FnFolds', WHERE WHAT IT READS IS OF BULK AT MOST 1048576: true; the input reads as it did. -/
def fnFoldsUptoRow : OpenClaim := { program := "ytebmhicdlamnbaadoor", sum := "69aff92f1f8de4e3f25951078a590b43e425af219afd4130c1b0d4eae61ea69e", func := "loop.example/g00268/laws.FnFolds", spec := "fnFolds", inPlace := ["internal/bytealg.IndexByteString", "internal/bytealg.IndexString", "internal/bytealg.CountString", "internal/abi.NoEscape", "internal/bytealg.MakeNoZero"], named := ["internal/bytealg.MaxLen", "unicode/utf8.first", "unicode/utf8.acceptRanges"], apart := false, laid := [("unicode/utf8.acceptRanges", laid_unicode_utf8_acceptRanges), ("unicode/utf8.first", laid_unicode_utf8_first)], narrowed := true }
def FnFoldsUptoSaid : Prop := fnFoldsUptoRow.holds Tryd.pinned (OpenSpec.upto fnFoldsSpec)

end Rows
end Go.Proofs.YtebmhicdlamnbaaDoor
