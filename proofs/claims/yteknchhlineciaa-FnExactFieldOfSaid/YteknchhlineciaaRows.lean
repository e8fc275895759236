/-
  No cell of these rows narrows 'for every input' (looked for: loops, veiled, ifaces, maps, wideKeys, modest, calm, conditions, laid).
  DERIVED. THE GIVEN ROWS OF THIS SEAT. 4 by the template 'for every input the law returns true; each argument reads behind the call as it read before'; 0 by the template 'total and deterministic' (their statements: YteknchhlineciaaTotals.lean).
  GIVEN WITH THE SEED: the statements are not yours to turn. If you find one false, say at which input.
  Laid BY PROGRAM, IN A SANDBOX (cutbox-rows.mjs): the forced cells as the released guide's own fill.sh prints them over the translation 13279680f0661bbb… (all of the seat's roots in one cut). By AI agents, Wed Nov 11 2026. No macro, syntax, notation, axiom, sorry.
-/
import Derived.Test.YteknchhlineciaaChecked
import GoSem.Claim
import GoSem.ClaimJoined
import GoSem.ClaimMapViews
import Derived.JoinedTies
import Derived.KernelRfl
namespace Go.Proofs.Yteknchhlineciaa
/- THE CELL 'sum', in the pinned program and in every row, IS THE sha256 OF THE DUMP (.gsa) THAT YteknchhlineciaaProg.lean LOADS. Nothing in Lean hashes anything: it is a label: what it is worth is what the hold of that sum in a sandbox is worth. -/
noncomputable def Try.pinned : Pinned := { name := "yteknchhlineciaa", sum := "13279680f0661bbbbcff42faf3c0fa326643c1f4b0248431e2f552e95ec74d53", checked := Try.checked }
namespace Rows
def none {H : Type} : Left H := { results := [], args := [] }

/-- 'laws.FnExactXmlNameOK': WHATEVER THE INPUT: true; the input reads as it did. -/
def fnExactXmlNameOKSpec : ChangeSpec := { name := "fnExactXmlNameOK", fn := fun _ => fun
  | [d] => { results := [.lit (.bool true)], args := [d] }
  | _ => none }
def fnExactXmlNameOKRow : OpenClaim := { program := "yteknchhlineciaa", sum := "13279680f0661bbbbcff42faf3c0fa326643c1f4b0248431e2f552e95ec74d53", func := "loop.example/g00268/laws.FnExactXmlNameOK", spec := "fnExactXmlNameOK", apart := false }
def FnExactXmlNameOKSaid : Prop := fnExactXmlNameOKRow.holds Try.pinned (OpenSpec.ofChange fnExactXmlNameOKSpec)

/-- ITS FALSE NEIGHBOUR: 'it returns false'. Refute it at one input. -/
def fnExactXmlNameOKWrong : ChangeSpec := { name := "fnExactXmlNameOK", fn := fun _ => fun
  | [d] => { results := [.lit (.bool false)], args := [d] }
  | _ => none }
def FnExactXmlNameOKWrongFalsely : Prop := fnExactXmlNameOKRow.holds Try.pinned (OpenSpec.ofChange fnExactXmlNameOKWrong)

/-- 'laws.FnExactAttrOf': WHATEVER THE INPUT: true; the input reads as it did. -/
def fnExactAttrOfSpec : ChangeSpec := { name := "fnExactAttrOf", fn := fun _ => fun
  | [d1, d2] => { results := [.lit (.bool true)], args := [d1, d2] }
  | _ => none }
def fnExactAttrOfRow : OpenClaim := { program := "yteknchhlineciaa", sum := "13279680f0661bbbbcff42faf3c0fa326643c1f4b0248431e2f552e95ec74d53", func := "loop.example/g00268/laws.FnExactAttrOf", spec := "fnExactAttrOf", unfollowed := true, recurses := true, apart := false }
def FnExactAttrOfSaid : Prop := fnExactAttrOfRow.holds Try.pinned (OpenSpec.ofChange fnExactAttrOfSpec)

/-- ITS FALSE NEIGHBOUR: 'it returns false'. Refute it at one input. -/
def fnExactAttrOfWrong : ChangeSpec := { name := "fnExactAttrOf", fn := fun _ => fun
  | [d1, d2] => { results := [.lit (.bool false)], args := [d1, d2] }
  | _ => none }
def FnExactAttrOfWrongFalsely : Prop := fnExactAttrOfRow.holds Try.pinned (OpenSpec.ofChange fnExactAttrOfWrong)

/-- 'laws.FnExactOneLine': WHATEVER THE INPUT: true; the input reads as it did. -/
def fnExactOneLineSpec : ChangeSpec := { name := "fnExactOneLine", fn := fun _ => fun
  | [d] => { results := [.lit (.bool true)], args := [d] }
  | _ => none }
def fnExactOneLineRow : OpenClaim := { program := "yteknchhlineciaa", sum := "13279680f0661bbbbcff42faf3c0fa326643c1f4b0248431e2f552e95ec74d53", func := "loop.example/g00268/laws.FnExactOneLine", spec := "fnExactOneLine", inPlace := ["internal/abi.NoEscape", "internal/bytealg.MakeNoZero"], unfollowed := true, recurses := true, apart := false }
def FnExactOneLineSaid : Prop := fnExactOneLineRow.holds Try.pinned (OpenSpec.ofChange fnExactOneLineSpec)

/-- ITS FALSE NEIGHBOUR: 'it returns false'. Refute it at one input. -/
def fnExactOneLineWrong : ChangeSpec := { name := "fnExactOneLine", fn := fun _ => fun
  | [d] => { results := [.lit (.bool false)], args := [d] }
  | _ => none }
def FnExactOneLineWrongFalsely : Prop := fnExactOneLineRow.holds Try.pinned (OpenSpec.ofChange fnExactOneLineWrong)

/-- 'laws.FnExactFieldOf': WHATEVER THE INPUT: true; the input reads as it did. -/
def fnExactFieldOfSpec : ChangeSpec := { name := "fnExactFieldOf", fn := fun _ => fun
  | [d1, d2] => { results := [.lit (.bool true)], args := [d1, d2] }
  | _ => none }
def fnExactFieldOfRow : OpenClaim := { program := "yteknchhlineciaa", sum := "13279680f0661bbbbcff42faf3c0fa326643c1f4b0248431e2f552e95ec74d53", func := "loop.example/g00268/laws.FnExactFieldOf", spec := "fnExactFieldOf", unfollowed := true, recurses := true, apart := false }
def FnExactFieldOfSaid : Prop := fnExactFieldOfRow.holds Try.pinned (OpenSpec.ofChange fnExactFieldOfSpec)

/-- ITS FALSE NEIGHBOUR: 'it returns false'. Refute it at one input. -/
def fnExactFieldOfWrong : ChangeSpec := { name := "fnExactFieldOf", fn := fun _ => fun
  | [d1, d2] => { results := [.lit (.bool false)], args := [d1, d2] }
  | _ => none }
def FnExactFieldOfWrongFalsely : Prop := fnExactFieldOfRow.holds Try.pinned (OpenSpec.ofChange fnExactFieldOfWrong)

/- THE SECOND FORM. 'bulk': how many values and letters a reading holds, each counted each time it is reached (what is shared counts as often as it is met; a slice's spare places count too). A statement '..UptoSaid' is the law's where the arguments, and the package variables that the reading takes, are together of bulk at most 1048576: NARROWER than '..Said'. Prove '..Said' where nothing that the law and all that it calls make is longer than what came in: it says more and counts as full. Else prove '..UptoSaid'. A law counts once. -/
mutual
def uptoBulk {H : Type} : DataW H → Nat
  | .lit (.string bytes) => bytes.length + 1
  | .lit _ => 1
  | .nil => 1
  | .ptr d => uptoBulk d + 1
  | .slice elems spare => uptoBulkAll elems + uptoBulkAll spare + 1
  | .agg parts => uptoBulkAll parts + 1
  | .iface _ d => uptoBulk d + 1
  | .map entries => uptoBulkEntries entries + 1
  | .held _ => 1
def uptoBulkAll {H : Type} : List (DataW H) → Nat
  | [] => 0
  | d :: r => uptoBulk d + uptoBulkAll r
def uptoBulkEntries {H : Type} : List (Lit × DataW H) → Nat
  | [] => 0
  | x :: r => uptoBulkEntry x + uptoBulkEntries r
def uptoBulkEntry {H : Type} : Lit × DataW H → Nat
  | (.string bytes, d) => bytes.length + uptoBulk d + 1
  | (_, d) => uptoBulk d + 1
 end
def uptoSmall : (H : Type) → List (DataW H) → Bool := fun _ ds => decide (uptoBulkAll ds ≤ 1048576)
def OpenSpec.upto (s : _root_.Go.ChangeSpec) : _root_.Go.OpenSpec := { _root_.Go.OpenSpec.ofChange s with cond := some uptoSmall }

/-- 'laws.FnExactXmlNameOK', WHERE WHAT IT READS IS OF BULK AT MOST 1048576: true; the input reads as it did. -/
def fnExactXmlNameOKUptoRow : OpenClaim := { program := "yteknchhlineciaa", sum := "13279680f0661bbbbcff42faf3c0fa326643c1f4b0248431e2f552e95ec74d53", func := "loop.example/g00268/laws.FnExactXmlNameOK", spec := "fnExactXmlNameOK", apart := false, narrowed := true }
def FnExactXmlNameOKUptoSaid : Prop := fnExactXmlNameOKUptoRow.holds Try.pinned (OpenSpec.upto fnExactXmlNameOKSpec)

/-- 'laws.FnExactAttrOf', WHERE WHAT IT READS IS OF BULK AT MOST 1048576: true; the input reads as it did. -/
def fnExactAttrOfUptoRow : OpenClaim := { program := "yteknchhlineciaa", sum := "13279680f0661bbbbcff42faf3c0fa326643c1f4b0248431e2f552e95ec74d53", func := "loop.example/g00268/laws.FnExactAttrOf", spec := "fnExactAttrOf", unfollowed := true, recurses := true, apart := false, narrowed := true }
def FnExactAttrOfUptoSaid : Prop := fnExactAttrOfUptoRow.holds Try.pinned (OpenSpec.upto fnExactAttrOfSpec)

/-- 'laws.FnExactOneLine', WHERE WHAT IT READS IS OF BULK AT MOST 1048576: true; the input reads as it did. -/
def fnExactOneLineUptoRow : OpenClaim := { program := "yteknchhlineciaa", sum := "13279680f0661bbbbcff42faf3c0fa326643c1f4b0248431e2f552e95ec74d53", func := "loop.example/g00268/laws.FnExactOneLine", spec := "fnExactOneLine", inPlace := ["internal/abi.NoEscape", "internal/bytealg.MakeNoZero"], unfollowed := true, recurses := true, apart := false, narrowed := true }
def FnExactOneLineUptoSaid : Prop := fnExactOneLineUptoRow.holds Try.pinned (OpenSpec.upto fnExactOneLineSpec)

/-- 'laws.FnExactFieldOf', WHERE WHAT IT READS IS OF BULK AT MOST 1048576: true; the input reads as it did. -/
def fnExactFieldOfUptoRow : OpenClaim := { program := "yteknchhlineciaa", sum := "13279680f0661bbbbcff42faf3c0fa326643c1f4b0248431e2f552e95ec74d53", func := "loop.example/g00268/laws.FnExactFieldOf", spec := "fnExactFieldOf", unfollowed := true, recurses := true, apart := false, narrowed := true }
def FnExactFieldOfUptoSaid : Prop := fnExactFieldOfUptoRow.holds Try.pinned (OpenSpec.upto fnExactFieldOfSpec)

end Rows
end Go.Proofs.Yteknchhlineciaa
