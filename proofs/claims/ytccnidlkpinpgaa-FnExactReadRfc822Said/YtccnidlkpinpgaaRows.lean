/-
  No cell of these rows narrows 'for every input' (looked for: loops, veiled, ifaces, maps, wideKeys, modest, calm, conditions, laid).
  DERIVED. THE GIVEN ROWS OF THIS SEAT. 7 by the template 'for every input the law returns true; each argument reads behind the call as it read before'; 0 by the template 'total and deterministic' (their statements: YtccnidlkpinpgaaTotals.lean).
  GIVEN WITH THE SEED: the statements are not yours to turn. If you find one false, say at which input.
  Laid BY PROGRAM, IN A SANDBOX (cutbox-rows.mjs): the forced cells as the released guide's own fill.sh prints them over the translation 76c92a423141e400… (all of the seat's roots in one cut). By AI agents, Wed Nov 11 2026. No macro, syntax, notation, axiom, sorry.
-/
import Derived.Test.YtccnidlkpinpgaaChecked
import GoSem.Claim
import GoSem.ClaimJoined
import GoSem.ClaimMapViews
import Derived.JoinedTies
import Derived.KernelRfl
namespace Go.Proofs.Ytccnidlkpinpgaa
/- THE CELL 'sum', in the pinned program and in every row, IS THE sha256 OF THE DUMP (.gsa) THAT YtccnidlkpinpgaaProg.lean LOADS. Nothing in Lean hashes anything: it is a label: what it is worth is what the hold of that sum in a sandbox is worth. -/
noncomputable def Try.pinned : Pinned := { name := "ytccnidlkpinpgaa", sum := "76c92a423141e4009247f4b4eeba4a8ceccfcbb96e4434ac3897dc44b1531fa7", checked := Try.checked }
namespace Rows
def none {H : Type} : Left H := { results := [], args := [] }

/-- 'laws.FnExactWeekdayOf': WHATEVER THE INPUT: true; the input reads as it did. -/
def fnExactWeekdayOfSpec : ChangeSpec := { name := "fnExactWeekdayOf", fn := fun _ => fun
  | [d] => { results := [.lit (.bool true)], args := [d] }
  | _ => none }
def fnExactWeekdayOfRow : OpenClaim := { program := "ytccnidlkpinpgaa", sum := "76c92a423141e4009247f4b4eeba4a8ceccfcbb96e4434ac3897dc44b1531fa7", func := "loop.example/g00268/laws.FnExactWeekdayOf", spec := "fnExactWeekdayOf", apart := false }
def FnExactWeekdayOfSaid : Prop := fnExactWeekdayOfRow.holds Try.pinned (OpenSpec.ofChange fnExactWeekdayOfSpec)

/-- ITS FALSE NEIGHBOUR: 'it returns false'. Refute it at one input. -/
def fnExactWeekdayOfWrong : ChangeSpec := { name := "fnExactWeekdayOf", fn := fun _ => fun
  | [d] => { results := [.lit (.bool false)], args := [d] }
  | _ => none }
def FnExactWeekdayOfWrongFalsely : Prop := fnExactWeekdayOfRow.holds Try.pinned (OpenSpec.ofChange fnExactWeekdayOfWrong)

/-- 'laws.FnExactCivilOK': WHATEVER THE INPUT: true; the input reads as it did. -/
def fnExactCivilOKSpec : ChangeSpec := { name := "fnExactCivilOK", fn := fun _ => fun
  | [d] => { results := [.lit (.bool true)], args := [d] }
  | _ => none }
def fnExactCivilOKRow : OpenClaim := { program := "ytccnidlkpinpgaa", sum := "76c92a423141e4009247f4b4eeba4a8ceccfcbb96e4434ac3897dc44b1531fa7", func := "loop.example/g00268/laws.FnExactCivilOK", spec := "fnExactCivilOK", apart := false }
def FnExactCivilOKSaid : Prop := fnExactCivilOKRow.holds Try.pinned (OpenSpec.ofChange fnExactCivilOKSpec)

/-- ITS FALSE NEIGHBOUR: 'it returns false'. Refute it at one input. -/
def fnExactCivilOKWrong : ChangeSpec := { name := "fnExactCivilOK", fn := fun _ => fun
  | [d] => { results := [.lit (.bool false)], args := [d] }
  | _ => none }
def FnExactCivilOKWrongFalsely : Prop := fnExactCivilOKRow.holds Try.pinned (OpenSpec.ofChange fnExactCivilOKWrong)

/-- 'laws.FnExactStampOf': WHATEVER THE INPUT: true; the input reads as it did. -/
def fnExactStampOfSpec : ChangeSpec := { name := "fnExactStampOf", fn := fun _ => fun
  | [d] => { results := [.lit (.bool true)], args := [d] }
  | _ => none }
def fnExactStampOfRow : OpenClaim := { program := "ytccnidlkpinpgaa", sum := "76c92a423141e4009247f4b4eeba4a8ceccfcbb96e4434ac3897dc44b1531fa7", func := "loop.example/g00268/laws.FnExactStampOf", spec := "fnExactStampOf", apart := false }
def FnExactStampOfSaid : Prop := fnExactStampOfRow.holds Try.pinned (OpenSpec.ofChange fnExactStampOfSpec)

/-- ITS FALSE NEIGHBOUR: 'it returns false'. Refute it at one input. -/
def fnExactStampOfWrong : ChangeSpec := { name := "fnExactStampOf", fn := fun _ => fun
  | [d] => { results := [.lit (.bool false)], args := [d] }
  | _ => none }
def FnExactStampOfWrongFalsely : Prop := fnExactStampOfRow.holds Try.pinned (OpenSpec.ofChange fnExactStampOfWrong)

/-- 'laws.FnExactCivilOf': WHATEVER THE INPUT: true; the input reads as it did. -/
def fnExactCivilOfSpec : ChangeSpec := { name := "fnExactCivilOf", fn := fun _ => fun
  | [d] => { results := [.lit (.bool true)], args := [d] }
  | _ => none }
def fnExactCivilOfRow : OpenClaim := { program := "ytccnidlkpinpgaa", sum := "76c92a423141e4009247f4b4eeba4a8ceccfcbb96e4434ac3897dc44b1531fa7", func := "loop.example/g00268/laws.FnExactCivilOf", spec := "fnExactCivilOf", apart := false }
def FnExactCivilOfSaid : Prop := fnExactCivilOfRow.holds Try.pinned (OpenSpec.ofChange fnExactCivilOfSpec)

/-- ITS FALSE NEIGHBOUR: 'it returns false'. Refute it at one input. -/
def fnExactCivilOfWrong : ChangeSpec := { name := "fnExactCivilOf", fn := fun _ => fun
  | [d] => { results := [.lit (.bool false)], args := [d] }
  | _ => none }
def FnExactCivilOfWrongFalsely : Prop := fnExactCivilOfRow.holds Try.pinned (OpenSpec.ofChange fnExactCivilOfWrong)

/-- 'laws.FnDates': WHATEVER THE INPUT: true; the input reads as it did. -/
def fnDatesSpec : ChangeSpec := { name := "fnDates", fn := fun _ => fun
  | [d] => { results := [.lit (.bool true)], args := [d] }
  | _ => none }
def fnDatesRow : OpenClaim := { program := "ytccnidlkpinpgaa", sum := "76c92a423141e4009247f4b4eeba4a8ceccfcbb96e4434ac3897dc44b1531fa7", func := "loop.example/g00268/laws.FnDates", spec := "fnDates", apart := false }
def FnDatesSaid : Prop := fnDatesRow.holds Try.pinned (OpenSpec.ofChange fnDatesSpec)

/-- ITS FALSE NEIGHBOUR: 'it returns false'. Refute it at one input. -/
def fnDatesWrong : ChangeSpec := { name := "fnDates", fn := fun _ => fun
  | [d] => { results := [.lit (.bool false)], args := [d] }
  | _ => none }
def FnDatesWrongFalsely : Prop := fnDatesRow.holds Try.pinned (OpenSpec.ofChange fnDatesWrong)

/-- 'laws.FnExactReadRfc3339': WHATEVER THE INPUT: true; the input reads as it did. -/
def fnExactReadRfc3339Spec : ChangeSpec := { name := "fnExactReadRfc3339", fn := fun _ => fun
  | [d] => { results := [.lit (.bool true)], args := [d] }
  | _ => none }
def fnExactReadRfc3339Row : OpenClaim := { program := "ytccnidlkpinpgaa", sum := "76c92a423141e4009247f4b4eeba4a8ceccfcbb96e4434ac3897dc44b1531fa7", func := "loop.example/g00268/laws.FnExactReadRfc3339", spec := "fnExactReadRfc3339", apart := false }
def FnExactReadRfc3339Said : Prop := fnExactReadRfc3339Row.holds Try.pinned (OpenSpec.ofChange fnExactReadRfc3339Spec)

/-- ITS FALSE NEIGHBOUR: 'it returns false'. Refute it at one input. -/
def fnExactReadRfc3339Wrong : ChangeSpec := { name := "fnExactReadRfc3339", fn := fun _ => fun
  | [d] => { results := [.lit (.bool false)], args := [d] }
  | _ => none }
def FnExactReadRfc3339WrongFalsely : Prop := fnExactReadRfc3339Row.holds Try.pinned (OpenSpec.ofChange fnExactReadRfc3339Wrong)

/-- 'laws.FnExactReadRfc822': WHATEVER THE INPUT: true; the input reads as it did. -/
def fnExactReadRfc822Spec : ChangeSpec := { name := "fnExactReadRfc822", fn := fun _ => fun
  | [d] => { results := [.lit (.bool true)], args := [d] }
  | _ => none }
def fnExactReadRfc822Row : OpenClaim := { program := "ytccnidlkpinpgaa", sum := "76c92a423141e4009247f4b4eeba4a8ceccfcbb96e4434ac3897dc44b1531fa7", func := "loop.example/g00268/laws.FnExactReadRfc822", spec := "fnExactReadRfc822", unfollowed := true, recurses := true, apart := false }
def FnExactReadRfc822Said : Prop := fnExactReadRfc822Row.holds Try.pinned (OpenSpec.ofChange fnExactReadRfc822Spec)

/-- ITS FALSE NEIGHBOUR: 'it returns false'. Refute it at one input. -/
def fnExactReadRfc822Wrong : ChangeSpec := { name := "fnExactReadRfc822", fn := fun _ => fun
  | [d] => { results := [.lit (.bool false)], args := [d] }
  | _ => none }
def FnExactReadRfc822WrongFalsely : Prop := fnExactReadRfc822Row.holds Try.pinned (OpenSpec.ofChange fnExactReadRfc822Wrong)

/- THE SECOND FORM. 'bulk': how many values and letters a reading holds, each counted each time it is reached (what is shared counts as often as it is met; a slice's spare places count too). A statement '..UptoSaid' is the law's where the arguments, and the package variables that the reading takes, are together of bulk at most 1048576: NARROWER than '..Said'. Prove '..Said' where nothing that the law and all that it calls make is longer than what came in: it says more and counts as full. Else prove '..UptoSaid'. A law counts once. -/
mutual
def uptoBulk {H : Type} : DataW H → Nat
  | .lit (.string bytes) => bytes.length + 1
  | .lit _ => 1
  | .nil => 1
  | .ptr d => uptoBulk d + 1
  | .slice elems spare => uptoBulkAll elems + uptoBulkAll spare + 1
  | .agg parts => uptoBulkAll parts + 1
  | .iface _ d => uptoBulk d + 1
  | .map entries => uptoBulkEntries entries + 1
  | .held _ => 1
def uptoBulkAll {H : Type} : List (DataW H) → Nat
  | [] => 0
  | d :: r => uptoBulk d + uptoBulkAll r
def uptoBulkEntries {H : Type} : List (Lit × DataW H) → Nat
  | [] => 0
  | x :: r => uptoBulkEntry x + uptoBulkEntries r
def uptoBulkEntry {H : Type} : Lit × DataW H → Nat
  | (.string bytes, d) => bytes.length + uptoBulk d + 1
  | (_, d) => uptoBulk d + 1
 end
def uptoSmall : (H : Type) → List (DataW H) → Bool := fun _ ds => decide (uptoBulkAll ds ≤ 1048576)
def OpenSpec.upto (s : _root_.Go.ChangeSpec) : _root_.Go.OpenSpec := { _root_.Go.OpenSpec.ofChange s with cond := some uptoSmall }

/-- 'laws.FnExactWeekdayOf', WHERE WHAT IT READS IS OF BULK AT MOST 1048576: true; the input reads as it did. -/
def fnExactWeekdayOfUptoRow : OpenClaim := { program := "ytccnidlkpinpgaa", sum := "76c92a423141e4009247f4b4eeba4a8ceccfcbb96e4434ac3897dc44b1531fa7", func := "loop.example/g00268/laws.FnExactWeekdayOf", spec := "fnExactWeekdayOf", apart := false, narrowed := true }
def FnExactWeekdayOfUptoSaid : Prop := fnExactWeekdayOfUptoRow.holds Try.pinned (OpenSpec.upto fnExactWeekdayOfSpec)

/-- 'laws.FnExactCivilOK', WHERE WHAT IT READS IS OF BULK AT MOST 1048576: true; the input reads as it did. -/
def fnExactCivilOKUptoRow : OpenClaim := { program := "ytccnidlkpinpgaa", sum := "76c92a423141e4009247f4b4eeba4a8ceccfcbb96e4434ac3897dc44b1531fa7", func := "loop.example/g00268/laws.FnExactCivilOK", spec := "fnExactCivilOK", apart := false, narrowed := true }
def FnExactCivilOKUptoSaid : Prop := fnExactCivilOKUptoRow.holds Try.pinned (OpenSpec.upto fnExactCivilOKSpec)

/-- 'laws.FnExactStampOf', WHERE WHAT IT READS IS OF BULK AT MOST 1048576: true; the input reads as it did. -/
def fnExactStampOfUptoRow : OpenClaim := { program := "ytccnidlkpinpgaa", sum := "76c92a423141e4009247f4b4eeba4a8ceccfcbb96e4434ac3897dc44b1531fa7", func := "loop.example/g00268/laws.FnExactStampOf", spec := "fnExactStampOf", apart := false, narrowed := true }
def FnExactStampOfUptoSaid : Prop := fnExactStampOfUptoRow.holds Try.pinned (OpenSpec.upto fnExactStampOfSpec)

/-- 'laws.FnExactCivilOf', WHERE WHAT IT READS IS OF BULK AT MOST 1048576: true; the input reads as it did. -/
def fnExactCivilOfUptoRow : OpenClaim := { program := "ytccnidlkpinpgaa", sum := "76c92a423141e4009247f4b4eeba4a8ceccfcbb96e4434ac3897dc44b1531fa7", func := "loop.example/g00268/laws.FnExactCivilOf", spec := "fnExactCivilOf", apart := false, narrowed := true }
def FnExactCivilOfUptoSaid : Prop := fnExactCivilOfUptoRow.holds Try.pinned (OpenSpec.upto fnExactCivilOfSpec)

/-- 'laws.FnDates', WHERE WHAT IT READS IS OF BULK AT MOST 1048576: true; the input reads as it did. -/
def fnDatesUptoRow : OpenClaim := { program := "ytccnidlkpinpgaa", sum := "76c92a423141e4009247f4b4eeba4a8ceccfcbb96e4434ac3897dc44b1531fa7", func := "loop.example/g00268/laws.FnDates", spec := "fnDates", apart := false, narrowed := true }
def FnDatesUptoSaid : Prop := fnDatesUptoRow.holds Try.pinned (OpenSpec.upto fnDatesSpec)

/-- 'laws.FnExactReadRfc3339', WHERE WHAT IT READS IS OF BULK AT MOST 1048576: true; the input reads as it did. -/
def fnExactReadRfc3339UptoRow : OpenClaim := { program := "ytccnidlkpinpgaa", sum := "76c92a423141e4009247f4b4eeba4a8ceccfcbb96e4434ac3897dc44b1531fa7", func := "loop.example/g00268/laws.FnExactReadRfc3339", spec := "fnExactReadRfc3339", apart := false, narrowed := true }
def FnExactReadRfc3339UptoSaid : Prop := fnExactReadRfc3339UptoRow.holds Try.pinned (OpenSpec.upto fnExactReadRfc3339Spec)

/-- 'laws.FnExactReadRfc822', WHERE WHAT IT READS IS OF BULK AT MOST 1048576: true; the input reads as it did. -/
def fnExactReadRfc822UptoRow : OpenClaim := { program := "ytccnidlkpinpgaa", sum := "76c92a423141e4009247f4b4eeba4a8ceccfcbb96e4434ac3897dc44b1531fa7", func := "loop.example/g00268/laws.FnExactReadRfc822", spec := "fnExactReadRfc822", unfollowed := true, recurses := true, apart := false, narrowed := true }
def FnExactReadRfc822UptoSaid : Prop := fnExactReadRfc822UptoRow.holds Try.pinned (OpenSpec.upto fnExactReadRfc822Spec)

end Rows
end Go.Proofs.Ytccnidlkpinpgaa
