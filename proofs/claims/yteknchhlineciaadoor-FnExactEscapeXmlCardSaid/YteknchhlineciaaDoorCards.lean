/-
  DERIVED. GIVEN WITH THE SEED: THE CARDS: each row of YteknchhlineciaaDoorRows.lean that lists a variable, with what it lists TIED to the program's text (the seventh form; the later family's looks); each row that meets fmt, with fmt's text TOLD by the authors' own Lean function (tested against real Go, not proved from fmt's source: count such statements apart). THE CARD IS WHAT COUNTS. Prove the row's statement (the work); the ties are given (YteknchhlineciaaDoorTie.lean); close each card by the builder's one call (the guide's Derived/Test/ToyasCard.lean, 'card_holds'). Laid BY PROGRAM, IN A SANDBOX (cutbox-door.mjs). By AI agents, Wed Nov 11 2026. No macro, syntax, notation, axiom, sorry.
-/
import Derived.Test.YteknchhlineciaaDoorRows
import GoSem.ClaimSeven
namespace Go.Proofs.YteknchhlineciaaDoor
namespace Rows

/-- THE TIED CARD OF 'laws.FnExactEntryOK'. -/
def fnExactEntryOKCard : Claim7 := { stood := { row := fnExactEntryOKRow, standIns := [], harness := (true, "7469b302945fbfa9b80da7463685dd518bae635758cdeb045649ba0348bf1f40"), looks := true }, kinds := [], alts := [], laidByText := true, laidKinds := [.data, .pinned], laidTests := true, laidLooks := .later }
def FnExactEntryOKCardSaid : Prop := Claim7.holds Tryd.pinned (.plain (OpenSpec.ofChange fnExactEntryOKSpec)) fnExactEntryOKCard

/-- THE TIED CARD OF 'laws.FnExactEscapeXml'. -/
def fnExactEscapeXmlCard : Claim7 := { stood := { row := fnExactEscapeXmlRow, standIns := [], harness := (true, "7469b302945fbfa9b80da7463685dd518bae635758cdeb045649ba0348bf1f40"), looks := true }, kinds := [], alts := [], laidByText := true, laidKinds := [.data, .pinned], laidTests := true, laidLooks := .later }
def FnExactEscapeXmlCardSaid : Prop := Claim7.holds Tryd.pinned (.plain (OpenSpec.ofChange fnExactEscapeXmlSpec)) fnExactEscapeXmlCard

/-- THE TIED CARD OF 'laws.FnExactMailOK'. -/
def fnExactMailOKCard : Claim7 := { stood := { row := fnExactMailOKRow, standIns := [], harness := (true, "7469b302945fbfa9b80da7463685dd518bae635758cdeb045649ba0348bf1f40"), looks := true }, kinds := [], alts := [], laidByText := true, laidKinds := [.data, .pinned], laidTests := true, laidLooks := .later }
def FnExactMailOKCardSaid : Prop := Claim7.holds Tryd.pinned (.plain (OpenSpec.ofChange fnExactMailOKSpec)) fnExactMailOKCard

/-- THE TIED CARD OF 'laws.FnExactFeedOK'. -/
def fnExactFeedOKCard : Claim7 := { stood := { row := fnExactFeedOKRow, standIns := [], harness := (true, "7469b302945fbfa9b80da7463685dd518bae635758cdeb045649ba0348bf1f40"), looks := true }, kinds := [], alts := [], laidByText := true, laidKinds := [.data, .pinned], laidTests := true, laidLooks := .later }
def FnExactFeedOKCardSaid : Prop := Claim7.holds Tryd.pinned (.plain (OpenSpec.ofChange fnExactFeedOKSpec)) fnExactFeedOKCard

/-- THE TIED CARD OF 'laws.FnExactFeedKeys'. -/
def fnExactFeedKeysCard : Claim7 := { stood := { row := fnExactFeedKeysRow, standIns := [], harness := (true, "7469b302945fbfa9b80da7463685dd518bae635758cdeb045649ba0348bf1f40"), looks := true }, kinds := [], alts := [], laidByText := true, laidKinds := [.data, .pinned], laidTests := true, laidLooks := .later }
def FnExactFeedKeysCardSaid : Prop := Claim7.holds Tryd.pinned (.plain (OpenSpec.ofChange fnExactFeedKeysSpec)) fnExactFeedKeysCard

/-- THE SECOND FORM's CARD OF 'laws.FnExactEntryOK'. -/
def fnExactEntryOKUptoCard : Claim7 := { stood := { row := fnExactEntryOKUptoRow, standIns := [], harness := (true, "7469b302945fbfa9b80da7463685dd518bae635758cdeb045649ba0348bf1f40"), looks := true }, kinds := [], alts := [], laidByText := true, laidKinds := [.data, .pinned], laidTests := true, laidLooks := .later }
def FnExactEntryOKUptoCardSaid : Prop := Claim7.holds Tryd.pinned (.plain (OpenSpec.upto fnExactEntryOKSpec)) fnExactEntryOKUptoCard

/-- THE SECOND FORM's CARD OF 'laws.FnExactEscapeXml'. -/
def fnExactEscapeXmlUptoCard : Claim7 := { stood := { row := fnExactEscapeXmlUptoRow, standIns := [], harness := (true, "7469b302945fbfa9b80da7463685dd518bae635758cdeb045649ba0348bf1f40"), looks := true }, kinds := [], alts := [], laidByText := true, laidKinds := [.data, .pinned], laidTests := true, laidLooks := .later }
def FnExactEscapeXmlUptoCardSaid : Prop := Claim7.holds Tryd.pinned (.plain (OpenSpec.upto fnExactEscapeXmlSpec)) fnExactEscapeXmlUptoCard

/-- THE SECOND FORM's CARD OF 'laws.FnExactMailOK'. -/
def fnExactMailOKUptoCard : Claim7 := { stood := { row := fnExactMailOKUptoRow, standIns := [], harness := (true, "7469b302945fbfa9b80da7463685dd518bae635758cdeb045649ba0348bf1f40"), looks := true }, kinds := [], alts := [], laidByText := true, laidKinds := [.data, .pinned], laidTests := true, laidLooks := .later }
def FnExactMailOKUptoCardSaid : Prop := Claim7.holds Tryd.pinned (.plain (OpenSpec.upto fnExactMailOKSpec)) fnExactMailOKUptoCard

/-- THE SECOND FORM's CARD OF 'laws.FnExactFeedOK'. -/
def fnExactFeedOKUptoCard : Claim7 := { stood := { row := fnExactFeedOKUptoRow, standIns := [], harness := (true, "7469b302945fbfa9b80da7463685dd518bae635758cdeb045649ba0348bf1f40"), looks := true }, kinds := [], alts := [], laidByText := true, laidKinds := [.data, .pinned], laidTests := true, laidLooks := .later }
def FnExactFeedOKUptoCardSaid : Prop := Claim7.holds Tryd.pinned (.plain (OpenSpec.upto fnExactFeedOKSpec)) fnExactFeedOKUptoCard

/-- THE SECOND FORM's CARD OF 'laws.FnExactFeedKeys'. -/
def fnExactFeedKeysUptoCard : Claim7 := { stood := { row := fnExactFeedKeysUptoRow, standIns := [], harness := (true, "7469b302945fbfa9b80da7463685dd518bae635758cdeb045649ba0348bf1f40"), looks := true }, kinds := [], alts := [], laidByText := true, laidKinds := [.data, .pinned], laidTests := true, laidLooks := .later }
def FnExactFeedKeysUptoCardSaid : Prop := Claim7.holds Tryd.pinned (.plain (OpenSpec.upto fnExactFeedKeysSpec)) fnExactFeedKeysUptoCard
end Rows
end Go.Proofs.YteknchhlineciaaDoor
