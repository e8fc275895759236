/-
  DERIVED. GIVEN WITH THE SEED: THE CARDS: each row of YtccnidlkpinpgaaDoorRows.lean that lists a variable, with what it lists TIED to the program's text (the seventh form; the later family's looks); each row that meets fmt, with fmt's text TOLD by the authors' own Lean function (tested against real Go, not proved from fmt's source: count such statements apart). THE CARD IS WHAT COUNTS. Prove the row's statement (the work); the ties are given (YtccnidlkpinpgaaDoorTie.lean); close each card by the builder's one call (the guide's Derived/Test/ToyasCard.lean, 'card_holds'). Laid BY PROGRAM, IN A SANDBOX (cutbox-door.mjs). By AI agents, Wed Nov 11 2026. No macro, syntax, notation, axiom, sorry.
-/
import Derived.Test.YtccnidlkpinpgaaDoorRows
import GoSem.ClaimSeven
namespace Go.Proofs.YtccnidlkpinpgaaDoor
namespace Rows

/-- THE TIED CARD OF 'laws.FnExactRfc3339Text'. -/
def fnExactRfc3339TextCard : Claim7 := { stood := { row := fnExactRfc3339TextRow, standIns := [], harness := (true, "3911db130e075384d73ecde6519ef9a208028235c3a6928a440594c985757f23"), looks := false }, kinds := [], alts := [], laidByText := true, laidKinds := [.data, .data, .data], laidTests := true, laidLooks := .later }
def FnExactRfc3339TextCardSaid : Prop := Claim7.holds Tryd.pinned (.plain (OpenSpec.ofChange fnExactRfc3339TextSpec)) fnExactRfc3339TextCard

/-- THE TIED CARD OF 'laws.FnExactRfc822Text'. -/
def fnExactRfc822TextCard : Claim7 := { stood := { row := fnExactRfc822TextRow, standIns := [], harness := (true, "3911db130e075384d73ecde6519ef9a208028235c3a6928a440594c985757f23"), looks := false }, kinds := [], alts := [], laidByText := true, laidKinds := [.data, .data, .data], laidTests := true, laidLooks := .later }
def FnExactRfc822TextCardSaid : Prop := Claim7.holds Tryd.pinned (.plain (OpenSpec.ofChange fnExactRfc822TextSpec)) fnExactRfc822TextCard

/-- THE TIED CARD OF 'laws.FnDateTexts'. -/
def fnDateTextsCard : Claim7 := { stood := { row := fnDateTextsRow, standIns := [], harness := (true, "3911db130e075384d73ecde6519ef9a208028235c3a6928a440594c985757f23"), looks := false }, kinds := [], alts := [], laidByText := true, laidKinds := [.data, .data, .data], laidTests := true, laidLooks := .later }
def FnDateTextsCardSaid : Prop := Claim7.holds Tryd.pinned (.plain (OpenSpec.ofChange fnDateTextsSpec)) fnDateTextsCard

/-- THE SECOND FORM's CARD OF 'laws.FnExactRfc3339Text'. -/
def fnExactRfc3339TextUptoCard : Claim7 := { stood := { row := fnExactRfc3339TextUptoRow, standIns := [], harness := (true, "3911db130e075384d73ecde6519ef9a208028235c3a6928a440594c985757f23"), looks := false }, kinds := [], alts := [], laidByText := true, laidKinds := [.data, .data, .data], laidTests := true, laidLooks := .later }
def FnExactRfc3339TextUptoCardSaid : Prop := Claim7.holds Tryd.pinned (.plain (OpenSpec.upto fnExactRfc3339TextSpec)) fnExactRfc3339TextUptoCard

/-- THE SECOND FORM's CARD OF 'laws.FnExactRfc822Text'. -/
def fnExactRfc822TextUptoCard : Claim7 := { stood := { row := fnExactRfc822TextUptoRow, standIns := [], harness := (true, "3911db130e075384d73ecde6519ef9a208028235c3a6928a440594c985757f23"), looks := false }, kinds := [], alts := [], laidByText := true, laidKinds := [.data, .data, .data], laidTests := true, laidLooks := .later }
def FnExactRfc822TextUptoCardSaid : Prop := Claim7.holds Tryd.pinned (.plain (OpenSpec.upto fnExactRfc822TextSpec)) fnExactRfc822TextUptoCard

/-- THE SECOND FORM's CARD OF 'laws.FnDateTexts'. -/
def fnDateTextsUptoCard : Claim7 := { stood := { row := fnDateTextsUptoRow, standIns := [], harness := (true, "3911db130e075384d73ecde6519ef9a208028235c3a6928a440594c985757f23"), looks := false }, kinds := [], alts := [], laidByText := true, laidKinds := [.data, .data, .data], laidTests := true, laidLooks := .later }
def FnDateTextsUptoCardSaid : Prop := Claim7.holds Tryd.pinned (.plain (OpenSpec.upto fnDateTextsSpec)) fnDateTextsUptoCard
end Rows
end Go.Proofs.YtccnidlkpinpgaaDoor
