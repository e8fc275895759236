/-
  No cell of these rows narrows 'for every input' (looked for: loops, veiled, ifaces, maps, wideKeys, modest, calm, conditions, laid).
  DERIVED. THE GIVEN ROWS OF THIS SEAT. 5 by the template 'for every input the law returns true; each argument reads behind the call as it read before'; 0 by the template 'total and deterministic' (their statements: YtebmhicdlamnbaaTotals.lean).
  GIVEN WITH THE SEED: the statements are not yours to turn. If you find one false, say at which input.
  Laid BY PROGRAM, IN A SANDBOX (cutbox-rows.mjs): the forced cells as the released guide's own fill.sh prints them over the translation ed4cb9938f0fff6e… (all of the seat's roots in one cut). By AI agents, Wed Nov 11 2026. No macro, syntax, notation, axiom, sorry.
-/
import Derived.Test.YtebmhicdlamnbaaChecked
import GoSem.Claim
import GoSem.ClaimJoined
import GoSem.ClaimMapViews
import Derived.JoinedTies
import Derived.KernelRfl
namespace Go.Proofs.Ytebmhicdlamnbaa
/- THE CELL 'sum', in the pinned program and in every row, IS THE sha256 OF THE DUMP (.gsa) THAT YtebmhicdlamnbaaProg.lean LOADS. Nothing in Lean hashes anything: it is a label: what it is worth is what the hold of that sum in a sandbox is worth. -/
noncomputable def Try.pinned : Pinned := { name := "ytebmhicdlamnbaa", sum := "ed4cb9938f0fff6e5d6287349895c617385565a8a3f56cce5b9a197a6ea2c97d", checked := Try.checked }
namespace Rows
def none {H : Type} : Left H := { results := [], args := [] }

/-- 'laws.FnExactBase64Text': WHATEVER THE INPUT: true; the input reads as it did. -/
def fnExactBase64TextSpec : ChangeSpec := { name := "fnExactBase64Text", fn := fun _ => fun
  | [d] => { results := [.lit (.bool true)], args := [d] }
  | _ => none }
def fnExactBase64TextRow : OpenClaim := { program := "ytebmhicdlamnbaa", sum := "ed4cb9938f0fff6e5d6287349895c617385565a8a3f56cce5b9a197a6ea2c97d", func := "loop.example/g00268/laws.FnExactBase64Text", spec := "fnExactBase64Text", apart := false }
def FnExactBase64TextSaid : Prop := fnExactBase64TextRow.holds Try.pinned (OpenSpec.ofChange fnExactBase64TextSpec)

/-- ITS FALSE NEIGHBOUR: 'it returns false'. Refute it at one input. -/
def fnExactBase64TextWrong : ChangeSpec := { name := "fnExactBase64Text", fn := fun _ => fun
  | [d] => { results := [.lit (.bool false)], args := [d] }
  | _ => none }
def FnExactBase64TextWrongFalsely : Prop := fnExactBase64TextRow.holds Try.pinned (OpenSpec.ofChange fnExactBase64TextWrong)

/-- 'laws.FnExactReadBase64': WHATEVER THE INPUT: true; the input reads as it did. -/
def fnExactReadBase64Spec : ChangeSpec := { name := "fnExactReadBase64", fn := fun _ => fun
  | [d] => { results := [.lit (.bool true)], args := [d] }
  | _ => none }
def fnExactReadBase64Row : OpenClaim := { program := "ytebmhicdlamnbaa", sum := "ed4cb9938f0fff6e5d6287349895c617385565a8a3f56cce5b9a197a6ea2c97d", func := "loop.example/g00268/laws.FnExactReadBase64", spec := "fnExactReadBase64", inPlace := ["internal/bytealg.IndexByteString"], apart := false }
def FnExactReadBase64Said : Prop := fnExactReadBase64Row.holds Try.pinned (OpenSpec.ofChange fnExactReadBase64Spec)

/-- ITS FALSE NEIGHBOUR: 'it returns false'. Refute it at one input. -/
def fnExactReadBase64Wrong : ChangeSpec := { name := "fnExactReadBase64", fn := fun _ => fun
  | [d] => { results := [.lit (.bool false)], args := [d] }
  | _ => none }
def FnExactReadBase64WrongFalsely : Prop := fnExactReadBase64Row.holds Try.pinned (OpenSpec.ofChange fnExactReadBase64Wrong)

/-- 'laws.FnBase64': WHATEVER THE INPUT: true; the input reads as it did. -/
def fnBase64Spec : ChangeSpec := { name := "fnBase64", fn := fun _ => fun
  | [d] => { results := [.lit (.bool true)], args := [d] }
  | _ => none }
def fnBase64Row : OpenClaim := { program := "ytebmhicdlamnbaa", sum := "ed4cb9938f0fff6e5d6287349895c617385565a8a3f56cce5b9a197a6ea2c97d", func := "loop.example/g00268/laws.FnBase64", spec := "fnBase64", inPlace := ["internal/bytealg.IndexByteString"], apart := false }
def FnBase64Said : Prop := fnBase64Row.holds Try.pinned (OpenSpec.ofChange fnBase64Spec)

/-- ITS FALSE NEIGHBOUR: 'it returns false'. Refute it at one input. -/
def fnBase64Wrong : ChangeSpec := { name := "fnBase64", fn := fun _ => fun
  | [d] => { results := [.lit (.bool false)], args := [d] }
  | _ => none }
def FnBase64WrongFalsely : Prop := fnBase64Row.holds Try.pinned (OpenSpec.ofChange fnBase64Wrong)

/-- 'laws.FnExactReadQuoted': WHATEVER THE INPUT: true; the input reads as it did. -/
def fnExactReadQuotedSpec : ChangeSpec := { name := "fnExactReadQuoted", fn := fun _ => fun
  | [d] => { results := [.lit (.bool true)], args := [d] }
  | _ => none }
def fnExactReadQuotedRow : OpenClaim := { program := "ytebmhicdlamnbaa", sum := "ed4cb9938f0fff6e5d6287349895c617385565a8a3f56cce5b9a197a6ea2c97d", func := "loop.example/g00268/laws.FnExactReadQuoted", spec := "fnExactReadQuoted", inPlace := ["internal/bytealg.IndexByteString"], apart := false }
def FnExactReadQuotedSaid : Prop := fnExactReadQuotedRow.holds Try.pinned (OpenSpec.ofChange fnExactReadQuotedSpec)

/-- ITS FALSE NEIGHBOUR: 'it returns false'. Refute it at one input. -/
def fnExactReadQuotedWrong : ChangeSpec := { name := "fnExactReadQuoted", fn := fun _ => fun
  | [d] => { results := [.lit (.bool false)], args := [d] }
  | _ => none }
def FnExactReadQuotedWrongFalsely : Prop := fnExactReadQuotedRow.holds Try.pinned (OpenSpec.ofChange fnExactReadQuotedWrong)

/-- 'laws.FnExactHeaderNameOK': WHATEVER THE INPUT: true; the input reads as it did. -/
def fnExactHeaderNameOKSpec : ChangeSpec := { name := "fnExactHeaderNameOK", fn := fun _ => fun
  | [d] => { results := [.lit (.bool true)], args := [d] }
  | _ => none }
def fnExactHeaderNameOKRow : OpenClaim := { program := "ytebmhicdlamnbaa", sum := "ed4cb9938f0fff6e5d6287349895c617385565a8a3f56cce5b9a197a6ea2c97d", func := "loop.example/g00268/laws.FnExactHeaderNameOK", spec := "fnExactHeaderNameOK", inPlace := ["internal/bytealg.IndexByteString", "internal/bytealg.IndexString"], named := ["internal/bytealg.MaxLen"], apart := false }
def FnExactHeaderNameOKSaid : Prop := fnExactHeaderNameOKRow.holds Try.pinned (OpenSpec.ofChange fnExactHeaderNameOKSpec)

/-- ITS FALSE NEIGHBOUR: 'it returns false'. Refute it at one input. -/
def fnExactHeaderNameOKWrong : ChangeSpec := { name := "fnExactHeaderNameOK", fn := fun _ => fun
  | [d] => { results := [.lit (.bool false)], args := [d] }
  | _ => none }
def FnExactHeaderNameOKWrongFalsely : Prop := fnExactHeaderNameOKRow.holds Try.pinned (OpenSpec.ofChange fnExactHeaderNameOKWrong)

/- THE SECOND FORM. 'bulk': how many values and letters a reading holds, each counted each time it is reached (what is shared counts as often as it is met; a slice's spare places count too). A statement '..UptoSaid' is the law's where the arguments, and the package variables that the reading takes, are together of bulk at most 1048576: NARROWER than '..Said'. Prove '..Said' where nothing that the law and all that it calls make is longer than what came in: it says more and counts as full. Else prove '..UptoSaid'. A law counts once. -/
mutual
def uptoBulk {H : Type} : DataW H → Nat
  | .lit (.string bytes) => bytes.length + 1
  | .lit _ => 1
  | .nil => 1
  | .ptr d => uptoBulk d + 1
  | .slice elems spare => uptoBulkAll elems + uptoBulkAll spare + 1
  | .agg parts => uptoBulkAll parts + 1
  | .iface _ d => uptoBulk d + 1
  | .map entries => uptoBulkEntries entries + 1
  | .held _ => 1
def uptoBulkAll {H : Type} : List (DataW H) → Nat
  | [] => 0
  | d :: r => uptoBulk d + uptoBulkAll r
def uptoBulkEntries {H : Type} : List (Lit × DataW H) → Nat
  | [] => 0
  | x :: r => uptoBulkEntry x + uptoBulkEntries r
def uptoBulkEntry {H : Type} : Lit × DataW H → Nat
  | (.string bytes, d) => bytes.length + uptoBulk d + 1
  | (_, d) => uptoBulk d + 1
 end
def uptoSmall : (H : Type) → List (DataW H) → Bool := fun _ ds => decide (uptoBulkAll ds ≤ 1048576)
def OpenSpec.upto (s : _root_.Go.ChangeSpec) : _root_.Go.OpenSpec := { _root_.Go.OpenSpec.ofChange s with cond := some uptoSmall }

/-- 'laws.FnExactBase64Text', WHERE WHAT IT READS IS OF BULK AT MOST 1048576: true; the input reads as it did. -/
def fnExactBase64TextUptoRow : OpenClaim := { program := "ytebmhicdlamnbaa", sum := "ed4cb9938f0fff6e5d6287349895c617385565a8a3f56cce5b9a197a6ea2c97d", func := "loop.example/g00268/laws.FnExactBase64Text", spec := "fnExactBase64Text", apart := false, narrowed := true }
def FnExactBase64TextUptoSaid : Prop := fnExactBase64TextUptoRow.holds Try.pinned (OpenSpec.upto fnExactBase64TextSpec)

/-- 'laws.FnExactReadBase64', WHERE WHAT IT READS IS OF BULK AT MOST 1048576: true; the input reads as it did. -/
def fnExactReadBase64UptoRow : OpenClaim := { program := "ytebmhicdlamnbaa", sum := "ed4cb9938f0fff6e5d6287349895c617385565a8a3f56cce5b9a197a6ea2c97d", func := "loop.example/g00268/laws.FnExactReadBase64", spec := "fnExactReadBase64", inPlace := ["internal/bytealg.IndexByteString"], apart := false, narrowed := true }
def FnExactReadBase64UptoSaid : Prop := fnExactReadBase64UptoRow.holds Try.pinned (OpenSpec.upto fnExactReadBase64Spec)

/-- 'laws.FnBase64', WHERE WHAT IT READS IS OF BULK AT MOST 1048576: true; the input reads as it did. -/
def fnBase64UptoRow : OpenClaim := { program := "ytebmhicdlamnbaa", sum := "ed4cb9938f0fff6e5d6287349895c617385565a8a3f56cce5b9a197a6ea2c97d", func := "loop.example/g00268/laws.FnBase64", spec := "fnBase64", inPlace := ["internal/bytealg.IndexByteString"], apart := false, narrowed := true }
def FnBase64UptoSaid : Prop := fnBase64UptoRow.holds Try.pinned (OpenSpec.upto fnBase64Spec)

/-- 'laws.FnExactReadQuoted', WHERE WHAT IT READS IS OF BULK AT MOST 1048576: true; the input reads as it did. -/
def fnExactReadQuotedUptoRow : OpenClaim := { program := "ytebmhicdlamnbaa", sum := "ed4cb9938f0fff6e5d6287349895c617385565a8a3f56cce5b9a197a6ea2c97d", func := "loop.example/g00268/laws.FnExactReadQuoted", spec := "fnExactReadQuoted", inPlace := ["internal/bytealg.IndexByteString"], apart := false, narrowed := true }
def FnExactReadQuotedUptoSaid : Prop := fnExactReadQuotedUptoRow.holds Try.pinned (OpenSpec.upto fnExactReadQuotedSpec)

/-- 'laws.FnExactHeaderNameOK', WHERE WHAT IT READS IS OF BULK AT MOST 1048576: true; the input reads as it did. -/
def fnExactHeaderNameOKUptoRow : OpenClaim := { program := "ytebmhicdlamnbaa", sum := "ed4cb9938f0fff6e5d6287349895c617385565a8a3f56cce5b9a197a6ea2c97d", func := "loop.example/g00268/laws.FnExactHeaderNameOK", spec := "fnExactHeaderNameOK", inPlace := ["internal/bytealg.IndexByteString", "internal/bytealg.IndexString"], named := ["internal/bytealg.MaxLen"], apart := false, narrowed := true }
def FnExactHeaderNameOKUptoSaid : Prop := fnExactHeaderNameOKUptoRow.holds Try.pinned (OpenSpec.upto fnExactHeaderNameOKSpec)

end Rows
end Go.Proofs.Ytebmhicdlamnbaa
