/-
  DERIVED. GIVEN WITH THE SEED: THE CARDS: each row of YtoihdifnmcnegaaDoorRows.lean that lists a variable, with what it lists TIED to the program's text (the seventh form; the later family's looks); each row that meets fmt, with fmt's text TOLD by the authors' own Lean function (tested against real Go, not proved from fmt's source: count such statements apart). THE CARD IS WHAT COUNTS. Prove the row's statement (the work); the ties are given (YtoihdifnmcnegaaDoorTie.lean); close each card by the builder's one call (the guide's Derived/Test/ToyasCard.lean, 'card_holds'). Laid BY PROGRAM, IN A SANDBOX (cutbox-door.mjs). By AI agents, Wed Nov 11 2026. No macro, syntax, notation, axiom, sorry.
-/
import Derived.Test.YtoihdifnmcnegaaDoorRows
import GoSem.ClaimSeven
namespace Go.Proofs.YtoihdifnmcnegaaDoor
namespace Rows

/-- THE TIED CARD OF 'laws.FnExactValidText'. -/
def fnExactValidTextCard : Claim7 := { stood := { row := fnExactValidTextRow, standIns := [], harness := (true, "5e75dd963e6a4b43a174516939e77d30944b14352543e8732595bf115b95d54f"), looks := false }, kinds := [], alts := [], laidByText := true, laidKinds := [.data, .pinned], laidTests := true, laidLooks := .later }
def FnExactValidTextCardSaid : Prop := Claim7.holds Tryd.pinned (.plain (OpenSpec.ofChange fnExactValidTextSpec)) fnExactValidTextCard

/-- THE TIED CARD OF 'laws.FnExactRunesOf'. -/
def fnExactRunesOfCard : Claim7 := { stood := { row := fnExactRunesOfRow, standIns := [], harness := (true, "5e75dd963e6a4b43a174516939e77d30944b14352543e8732595bf115b95d54f"), looks := false }, kinds := [], alts := [], laidByText := true, laidKinds := [.data, .pinned], laidTests := true, laidLooks := .later }
def FnExactRunesOfCardSaid : Prop := Claim7.holds Tryd.pinned (.plain (OpenSpec.ofChange fnExactRunesOfSpec)) fnExactRunesOfCard

/-- THE TIED CARD OF 'laws.FnExactRepairText'. -/
def fnExactRepairTextCard : Claim7 := { stood := { row := fnExactRepairTextRow, standIns := [], harness := (true, "5e75dd963e6a4b43a174516939e77d30944b14352543e8732595bf115b95d54f"), looks := false }, kinds := [], alts := [], laidByText := true, laidKinds := [.data, .pinned], laidTests := true, laidLooks := .later }
def FnExactRepairTextCardSaid : Prop := Claim7.holds Tryd.pinned (.plain (OpenSpec.ofChange fnExactRepairTextSpec)) fnExactRepairTextCard

/-- THE TIED CARD OF 'laws.FnExactCutRunes'. -/
def fnExactCutRunesCard : Claim7 := { stood := { row := fnExactCutRunesRow, standIns := [], harness := (true, "5e75dd963e6a4b43a174516939e77d30944b14352543e8732595bf115b95d54f"), looks := false }, kinds := [], alts := [], laidByText := true, laidKinds := [.data, .pinned], laidTests := true, laidLooks := .later }
def FnExactCutRunesCardSaid : Prop := Claim7.holds Tryd.pinned (.plain (OpenSpec.ofChange fnExactCutRunesSpec)) fnExactCutRunesCard

/-- THE SECOND FORM's CARD OF 'laws.FnExactValidText'. -/
def fnExactValidTextUptoCard : Claim7 := { stood := { row := fnExactValidTextUptoRow, standIns := [], harness := (true, "5e75dd963e6a4b43a174516939e77d30944b14352543e8732595bf115b95d54f"), looks := false }, kinds := [], alts := [], laidByText := true, laidKinds := [.data, .pinned], laidTests := true, laidLooks := .later }
def FnExactValidTextUptoCardSaid : Prop := Claim7.holds Tryd.pinned (.plain (OpenSpec.upto fnExactValidTextSpec)) fnExactValidTextUptoCard

/-- THE SECOND FORM's CARD OF 'laws.FnExactRunesOf'. -/
def fnExactRunesOfUptoCard : Claim7 := { stood := { row := fnExactRunesOfUptoRow, standIns := [], harness := (true, "5e75dd963e6a4b43a174516939e77d30944b14352543e8732595bf115b95d54f"), looks := false }, kinds := [], alts := [], laidByText := true, laidKinds := [.data, .pinned], laidTests := true, laidLooks := .later }
def FnExactRunesOfUptoCardSaid : Prop := Claim7.holds Tryd.pinned (.plain (OpenSpec.upto fnExactRunesOfSpec)) fnExactRunesOfUptoCard

/-- THE SECOND FORM's CARD OF 'laws.FnExactRepairText'. -/
def fnExactRepairTextUptoCard : Claim7 := { stood := { row := fnExactRepairTextUptoRow, standIns := [], harness := (true, "5e75dd963e6a4b43a174516939e77d30944b14352543e8732595bf115b95d54f"), looks := false }, kinds := [], alts := [], laidByText := true, laidKinds := [.data, .pinned], laidTests := true, laidLooks := .later }
def FnExactRepairTextUptoCardSaid : Prop := Claim7.holds Tryd.pinned (.plain (OpenSpec.upto fnExactRepairTextSpec)) fnExactRepairTextUptoCard

/-- THE SECOND FORM's CARD OF 'laws.FnExactCutRunes'. -/
def fnExactCutRunesUptoCard : Claim7 := { stood := { row := fnExactCutRunesUptoRow, standIns := [], harness := (true, "5e75dd963e6a4b43a174516939e77d30944b14352543e8732595bf115b95d54f"), looks := false }, kinds := [], alts := [], laidByText := true, laidKinds := [.data, .pinned], laidTests := true, laidLooks := .later }
def FnExactCutRunesUptoCardSaid : Prop := Claim7.holds Tryd.pinned (.plain (OpenSpec.upto fnExactCutRunesSpec)) fnExactCutRunesUptoCard
end Rows
end Go.Proofs.YtoihdifnmcnegaaDoor
