/-
  No cell of these rows narrows 'for every input' (looked for: loops, veiled, ifaces, maps, wideKeys, modest, calm, conditions, laid).
  DERIVED. THE GIVEN ROWS OF THIS SEAT. 8 by the template 'for every input the law returns true; each argument reads behind the call as it read before'; 0 by the template 'total and deterministic' (their statements: YtoihdifnmcnegaaTotals.lean).
  GIVEN WITH THE SEED: the statements are not yours to turn. If you find one false, say at which input.
  Laid BY PROGRAM, IN A SANDBOX (cutbox-rows.mjs): the forced cells as the released guide's own fill.sh prints them over the translation 70dd35a7f80f6133… (all of the seat's roots in one cut). By AI agents, Wed Nov 11 2026. No macro, syntax, notation, axiom, sorry.
-/
import Derived.Test.YtoihdifnmcnegaaChecked
import GoSem.Claim
import GoSem.ClaimJoined
import GoSem.ClaimMapViews
import Derived.JoinedTies
import Derived.KernelRfl
namespace Go.Proofs.Ytoihdifnmcnegaa
/- THE CELL 'sum', in the pinned program and in every row, IS THE sha256 OF THE DUMP (.gsa) THAT YtoihdifnmcnegaaProg.lean LOADS. Nothing in Lean hashes anything: it is a label: what it is worth is what the hold of that sum in a sandbox is worth. -/
noncomputable def Try.pinned : Pinned := { name := "ytoihdifnmcnegaa", sum := "70dd35a7f80f613329152baab89addad0523aa34bad0b66c202184c705bdef63", checked := Try.checked }
namespace Rows
def none {H : Type} : Left H := { results := [], args := [] }

/-- 'laws.FnExactConstants': WHATEVER THE INPUT: true; the input reads as it did. -/
def fnExactConstantsSpec : ChangeSpec := { name := "fnExactConstants", fn := fun _ => fun
  | [] => { results := [.lit (.bool true)], args := [] }
  | _ => none }
def fnExactConstantsRow : OpenClaim := { program := "ytoihdifnmcnegaa", sum := "70dd35a7f80f613329152baab89addad0523aa34bad0b66c202184c705bdef63", func := "loop.example/g00268/laws.FnExactConstants", spec := "fnExactConstants", apart := false }
def FnExactConstantsSaid : Prop := fnExactConstantsRow.holds Try.pinned (OpenSpec.ofChange fnExactConstantsSpec)

/-- ITS FALSE NEIGHBOUR: 'it returns false'. Refute it at one input. -/
def fnExactConstantsWrong : ChangeSpec := { name := "fnExactConstants", fn := fun _ => fun
  | [] => { results := [.lit (.bool false)], args := [] }
  | _ => none }
def FnExactConstantsWrongFalsely : Prop := fnExactConstantsRow.holds Try.pinned (OpenSpec.ofChange fnExactConstantsWrong)

/-- 'laws.FnExactCodeWord': WHATEVER THE INPUT: true; the input reads as it did. -/
def fnExactCodeWordSpec : ChangeSpec := { name := "fnExactCodeWord", fn := fun _ => fun
  | [d] => { results := [.lit (.bool true)], args := [d] }
  | _ => none }
def fnExactCodeWordRow : OpenClaim := { program := "ytoihdifnmcnegaa", sum := "70dd35a7f80f613329152baab89addad0523aa34bad0b66c202184c705bdef63", func := "loop.example/g00268/laws.FnExactCodeWord", spec := "fnExactCodeWord", apart := false }
def FnExactCodeWordSaid : Prop := fnExactCodeWordRow.holds Try.pinned (OpenSpec.ofChange fnExactCodeWordSpec)

/-- ITS FALSE NEIGHBOUR: 'it returns false'. Refute it at one input. -/
def fnExactCodeWordWrong : ChangeSpec := { name := "fnExactCodeWord", fn := fun _ => fun
  | [d] => { results := [.lit (.bool false)], args := [d] }
  | _ => none }
def FnExactCodeWordWrongFalsely : Prop := fnExactCodeWordRow.holds Try.pinned (OpenSpec.ofChange fnExactCodeWordWrong)

/-- 'laws.FnExactCodeOf': WHATEVER THE INPUT: true; the input reads as it did. -/
def fnExactCodeOfSpec : ChangeSpec := { name := "fnExactCodeOf", fn := fun _ => fun
  | [d] => { results := [.lit (.bool true)], args := [d] }
  | _ => none }
def fnExactCodeOfRow : OpenClaim := { program := "ytoihdifnmcnegaa", sum := "70dd35a7f80f613329152baab89addad0523aa34bad0b66c202184c705bdef63", func := "loop.example/g00268/laws.FnExactCodeOf", spec := "fnExactCodeOf", apart := false }
def FnExactCodeOfSaid : Prop := fnExactCodeOfRow.holds Try.pinned (OpenSpec.ofChange fnExactCodeOfSpec)

/-- ITS FALSE NEIGHBOUR: 'it returns false'. Refute it at one input. -/
def fnExactCodeOfWrong : ChangeSpec := { name := "fnExactCodeOf", fn := fun _ => fun
  | [d] => { results := [.lit (.bool false)], args := [d] }
  | _ => none }
def FnExactCodeOfWrongFalsely : Prop := fnExactCodeOfRow.holds Try.pinned (OpenSpec.ofChange fnExactCodeOfWrong)

/-- 'laws.FnExactNameOK': WHATEVER THE INPUT: true; the input reads as it did. -/
def fnExactNameOKSpec : ChangeSpec := { name := "fnExactNameOK", fn := fun _ => fun
  | [d] => { results := [.lit (.bool true)], args := [d] }
  | _ => none }
def fnExactNameOKRow : OpenClaim := { program := "ytoihdifnmcnegaa", sum := "70dd35a7f80f613329152baab89addad0523aa34bad0b66c202184c705bdef63", func := "loop.example/g00268/laws.FnExactNameOK", spec := "fnExactNameOK", apart := false }
def FnExactNameOKSaid : Prop := fnExactNameOKRow.holds Try.pinned (OpenSpec.ofChange fnExactNameOKSpec)

/-- ITS FALSE NEIGHBOUR: 'it returns false'. Refute it at one input. -/
def fnExactNameOKWrong : ChangeSpec := { name := "fnExactNameOK", fn := fun _ => fun
  | [d] => { results := [.lit (.bool false)], args := [d] }
  | _ => none }
def FnExactNameOKWrongFalsely : Prop := fnExactNameOKRow.holds Try.pinned (OpenSpec.ofChange fnExactNameOKWrong)

/-- 'laws.FnExactCheck32': WHATEVER THE INPUT: true; the input reads as it did. -/
def fnExactCheck32Spec : ChangeSpec := { name := "fnExactCheck32", fn := fun _ => fun
  | [d] => { results := [.lit (.bool true)], args := [d] }
  | _ => none }
def fnExactCheck32Row : OpenClaim := { program := "ytoihdifnmcnegaa", sum := "70dd35a7f80f613329152baab89addad0523aa34bad0b66c202184c705bdef63", func := "loop.example/g00268/laws.FnExactCheck32", spec := "fnExactCheck32", apart := false }
def FnExactCheck32Said : Prop := fnExactCheck32Row.holds Try.pinned (OpenSpec.ofChange fnExactCheck32Spec)

/-- ITS FALSE NEIGHBOUR: 'it returns false'. Refute it at one input. -/
def fnExactCheck32Wrong : ChangeSpec := { name := "fnExactCheck32", fn := fun _ => fun
  | [d] => { results := [.lit (.bool false)], args := [d] }
  | _ => none }
def FnExactCheck32WrongFalsely : Prop := fnExactCheck32Row.holds Try.pinned (OpenSpec.ofChange fnExactCheck32Wrong)

/-- 'laws.FnExactRuneSize': WHATEVER THE INPUT: true; the input reads as it did. -/
def fnExactRuneSizeSpec : ChangeSpec := { name := "fnExactRuneSize", fn := fun _ => fun
  | [d] => { results := [.lit (.bool true)], args := [d] }
  | _ => none }
def fnExactRuneSizeRow : OpenClaim := { program := "ytoihdifnmcnegaa", sum := "70dd35a7f80f613329152baab89addad0523aa34bad0b66c202184c705bdef63", func := "loop.example/g00268/laws.FnExactRuneSize", spec := "fnExactRuneSize", apart := false }
def FnExactRuneSizeSaid : Prop := fnExactRuneSizeRow.holds Try.pinned (OpenSpec.ofChange fnExactRuneSizeSpec)

/-- ITS FALSE NEIGHBOUR: 'it returns false'. Refute it at one input. -/
def fnExactRuneSizeWrong : ChangeSpec := { name := "fnExactRuneSize", fn := fun _ => fun
  | [d] => { results := [.lit (.bool false)], args := [d] }
  | _ => none }
def FnExactRuneSizeWrongFalsely : Prop := fnExactRuneSizeRow.holds Try.pinned (OpenSpec.ofChange fnExactRuneSizeWrong)

/-- 'laws.FnExactTextOfRunes': WHATEVER THE INPUT: true; the input reads as it did. -/
def fnExactTextOfRunesSpec : ChangeSpec := { name := "fnExactTextOfRunes", fn := fun _ => fun
  | [d] => { results := [.lit (.bool true)], args := [d] }
  | _ => none }
def fnExactTextOfRunesRow : OpenClaim := { program := "ytoihdifnmcnegaa", sum := "70dd35a7f80f613329152baab89addad0523aa34bad0b66c202184c705bdef63", func := "loop.example/g00268/laws.FnExactTextOfRunes", spec := "fnExactTextOfRunes", apart := false }
def FnExactTextOfRunesSaid : Prop := fnExactTextOfRunesRow.holds Try.pinned (OpenSpec.ofChange fnExactTextOfRunesSpec)

/-- ITS FALSE NEIGHBOUR: 'it returns false'. Refute it at one input. -/
def fnExactTextOfRunesWrong : ChangeSpec := { name := "fnExactTextOfRunes", fn := fun _ => fun
  | [d] => { results := [.lit (.bool false)], args := [d] }
  | _ => none }
def FnExactTextOfRunesWrongFalsely : Prop := fnExactTextOfRunesRow.holds Try.pinned (OpenSpec.ofChange fnExactTextOfRunesWrong)

/-- 'laws.FnExactXmlRune': WHATEVER THE INPUT: true; the input reads as it did. -/
def fnExactXmlRuneSpec : ChangeSpec := { name := "fnExactXmlRune", fn := fun _ => fun
  | [d] => { results := [.lit (.bool true)], args := [d] }
  | _ => none }
def fnExactXmlRuneRow : OpenClaim := { program := "ytoihdifnmcnegaa", sum := "70dd35a7f80f613329152baab89addad0523aa34bad0b66c202184c705bdef63", func := "loop.example/g00268/laws.FnExactXmlRune", spec := "fnExactXmlRune", apart := false }
def FnExactXmlRuneSaid : Prop := fnExactXmlRuneRow.holds Try.pinned (OpenSpec.ofChange fnExactXmlRuneSpec)

/-- ITS FALSE NEIGHBOUR: 'it returns false'. Refute it at one input. -/
def fnExactXmlRuneWrong : ChangeSpec := { name := "fnExactXmlRune", fn := fun _ => fun
  | [d] => { results := [.lit (.bool false)], args := [d] }
  | _ => none }
def FnExactXmlRuneWrongFalsely : Prop := fnExactXmlRuneRow.holds Try.pinned (OpenSpec.ofChange fnExactXmlRuneWrong)

/- THE SECOND FORM. 'bulk': how many values and letters a reading holds, each counted each time it is reached (what is shared counts as often as it is met; a slice's spare places count too). A statement '..UptoSaid' is the law's where the arguments, and the package variables that the reading takes, are together of bulk at most 1048576: NARROWER than '..Said'. Prove '..Said' where nothing that the law and all that it calls make is longer than what came in: it says more and counts as full. Else prove '..UptoSaid'. A law counts once. -/
mutual
def uptoBulk {H : Type} : DataW H → Nat
  | .lit (.string bytes) => bytes.length + 1
  | .lit _ => 1
  | .nil => 1
  | .ptr d => uptoBulk d + 1
  | .slice elems spare => uptoBulkAll elems + uptoBulkAll spare + 1
  | .agg parts => uptoBulkAll parts + 1
  | .iface _ d => uptoBulk d + 1
  | .map entries => uptoBulkEntries entries + 1
  | .held _ => 1
def uptoBulkAll {H : Type} : List (DataW H) → Nat
  | [] => 0
  | d :: r => uptoBulk d + uptoBulkAll r
def uptoBulkEntries {H : Type} : List (Lit × DataW H) → Nat
  | [] => 0
  | x :: r => uptoBulkEntry x + uptoBulkEntries r
def uptoBulkEntry {H : Type} : Lit × DataW H → Nat
  | (.string bytes, d) => bytes.length + uptoBulk d + 1
  | (_, d) => uptoBulk d + 1
 end
def uptoSmall : (H : Type) → List (DataW H) → Bool := fun _ ds => decide (uptoBulkAll ds ≤ 1048576)
def OpenSpec.upto (s : _root_.Go.ChangeSpec) : _root_.Go.OpenSpec := { _root_.Go.OpenSpec.ofChange s with cond := some uptoSmall }

/-- 'laws.FnExactConstants', WHERE WHAT IT READS IS OF BULK AT MOST 1048576: true; the input reads as it did. -/
def fnExactConstantsUptoRow : OpenClaim := { program := "ytoihdifnmcnegaa", sum := "70dd35a7f80f613329152baab89addad0523aa34bad0b66c202184c705bdef63", func := "loop.example/g00268/laws.FnExactConstants", spec := "fnExactConstants", apart := false, narrowed := true }
def FnExactConstantsUptoSaid : Prop := fnExactConstantsUptoRow.holds Try.pinned (OpenSpec.upto fnExactConstantsSpec)

/-- 'laws.FnExactCodeWord', WHERE WHAT IT READS IS OF BULK AT MOST 1048576: true; the input reads as it did. -/
def fnExactCodeWordUptoRow : OpenClaim := { program := "ytoihdifnmcnegaa", sum := "70dd35a7f80f613329152baab89addad0523aa34bad0b66c202184c705bdef63", func := "loop.example/g00268/laws.FnExactCodeWord", spec := "fnExactCodeWord", apart := false, narrowed := true }
def FnExactCodeWordUptoSaid : Prop := fnExactCodeWordUptoRow.holds Try.pinned (OpenSpec.upto fnExactCodeWordSpec)

/-- 'laws.FnExactCodeOf', WHERE WHAT IT READS IS OF BULK AT MOST 1048576: true; the input reads as it did. -/
def fnExactCodeOfUptoRow : OpenClaim := { program := "ytoihdifnmcnegaa", sum := "70dd35a7f80f613329152baab89addad0523aa34bad0b66c202184c705bdef63", func := "loop.example/g00268/laws.FnExactCodeOf", spec := "fnExactCodeOf", apart := false, narrowed := true }
def FnExactCodeOfUptoSaid : Prop := fnExactCodeOfUptoRow.holds Try.pinned (OpenSpec.upto fnExactCodeOfSpec)

/-- 'laws.FnExactNameOK', WHERE WHAT IT READS IS OF BULK AT MOST 1048576: true; the input reads as it did. -/
def fnExactNameOKUptoRow : OpenClaim := { program := "ytoihdifnmcnegaa", sum := "70dd35a7f80f613329152baab89addad0523aa34bad0b66c202184c705bdef63", func := "loop.example/g00268/laws.FnExactNameOK", spec := "fnExactNameOK", apart := false, narrowed := true }
def FnExactNameOKUptoSaid : Prop := fnExactNameOKUptoRow.holds Try.pinned (OpenSpec.upto fnExactNameOKSpec)

/-- 'laws.FnExactCheck32', WHERE WHAT IT READS IS OF BULK AT MOST 1048576: true; the input reads as it did. -/
def fnExactCheck32UptoRow : OpenClaim := { program := "ytoihdifnmcnegaa", sum := "70dd35a7f80f613329152baab89addad0523aa34bad0b66c202184c705bdef63", func := "loop.example/g00268/laws.FnExactCheck32", spec := "fnExactCheck32", apart := false, narrowed := true }
def FnExactCheck32UptoSaid : Prop := fnExactCheck32UptoRow.holds Try.pinned (OpenSpec.upto fnExactCheck32Spec)

/-- 'laws.FnExactRuneSize', WHERE WHAT IT READS IS OF BULK AT MOST 1048576: true; the input reads as it did. -/
def fnExactRuneSizeUptoRow : OpenClaim := { program := "ytoihdifnmcnegaa", sum := "70dd35a7f80f613329152baab89addad0523aa34bad0b66c202184c705bdef63", func := "loop.example/g00268/laws.FnExactRuneSize", spec := "fnExactRuneSize", apart := false, narrowed := true }
def FnExactRuneSizeUptoSaid : Prop := fnExactRuneSizeUptoRow.holds Try.pinned (OpenSpec.upto fnExactRuneSizeSpec)

/-- 'laws.FnExactTextOfRunes', WHERE WHAT IT READS IS OF BULK AT MOST 1048576: true; the input reads as it did. -/
def fnExactTextOfRunesUptoRow : OpenClaim := { program := "ytoihdifnmcnegaa", sum := "70dd35a7f80f613329152baab89addad0523aa34bad0b66c202184c705bdef63", func := "loop.example/g00268/laws.FnExactTextOfRunes", spec := "fnExactTextOfRunes", apart := false, narrowed := true }
def FnExactTextOfRunesUptoSaid : Prop := fnExactTextOfRunesUptoRow.holds Try.pinned (OpenSpec.upto fnExactTextOfRunesSpec)

/-- 'laws.FnExactXmlRune', WHERE WHAT IT READS IS OF BULK AT MOST 1048576: true; the input reads as it did. -/
def fnExactXmlRuneUptoRow : OpenClaim := { program := "ytoihdifnmcnegaa", sum := "70dd35a7f80f613329152baab89addad0523aa34bad0b66c202184c705bdef63", func := "loop.example/g00268/laws.FnExactXmlRune", spec := "fnExactXmlRune", apart := false, narrowed := true }
def FnExactXmlRuneUptoSaid : Prop := fnExactXmlRuneUptoRow.holds Try.pinned (OpenSpec.upto fnExactXmlRuneSpec)

end Rows
end Go.Proofs.Ytoihdifnmcnegaa
