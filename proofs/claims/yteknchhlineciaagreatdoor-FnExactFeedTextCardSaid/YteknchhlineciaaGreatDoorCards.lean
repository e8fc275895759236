/-
  DERIVED. GIVEN WITH THE SEED: THE CARDS: each row of YteknchhlineciaaGreatDoorRows.lean that lists a variable, with what it lists TIED to the program's text (the seventh form; the later family's looks); each row that meets fmt, with fmt's text TOLD by the authors' own Lean function (tested against real Go, not proved from fmt's source: count such statements apart). THE CARD IS WHAT COUNTS. Prove the row's statement (the work); the ties are given (YteknchhlineciaaGreatDoorTie.lean); close each card by the builder's one call (the guide's Derived/Test/ToyasCard.lean, 'card_holds'). Laid BY PROGRAM, IN A SANDBOX (cutbox-door.mjs). By AI agents, Wed Nov 11 2026. No macro, syntax, notation, axiom, sorry.
-/
import Derived.Test.YteknchhlineciaaGreatDoorRows
import GoSem.ClaimSeven
namespace Go.Proofs.YteknchhlineciaaGreatDoor
namespace Rows

/-- THE TIED CARD OF 'laws.FnExactFeedText'. -/
def fnExactFeedTextCard : Claim7 := { stood := { row := fnExactFeedTextRow, standIns := [], harness := (true, "10ef5b63c9f06be743de012d2ad6eff7202e32cf096c6927e602d7f52965173b"), looks := true }, kinds := [], alts := [], laidByText := true, laidKinds := [.data, .data, .data, .data, .pinned], laidTests := true, laidLooks := .later }
def FnExactFeedTextCardSaid : Prop := Claim7.holds Tryz.pinned (.plain (OpenSpec.ofChange fnExactFeedTextSpec)) fnExactFeedTextCard

/-- THE SECOND FORM's CARD OF 'laws.FnExactFeedText'. -/
def fnExactFeedTextUptoCard : Claim7 := { stood := { row := fnExactFeedTextUptoRow, standIns := [], harness := (true, "10ef5b63c9f06be743de012d2ad6eff7202e32cf096c6927e602d7f52965173b"), looks := true }, kinds := [], alts := [], laidByText := true, laidKinds := [.data, .data, .data, .data, .pinned], laidTests := true, laidLooks := .later }
def FnExactFeedTextUptoCardSaid : Prop := Claim7.holds Tryz.pinned (.plain (OpenSpec.upto fnExactFeedTextSpec)) fnExactFeedTextUptoCard
end Rows
end Go.Proofs.YteknchhlineciaaGreatDoor
