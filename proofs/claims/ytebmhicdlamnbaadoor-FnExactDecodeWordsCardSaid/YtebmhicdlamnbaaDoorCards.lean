/-
  DERIVED. GIVEN WITH THE SEED: THE CARDS: each row of YtebmhicdlamnbaaDoorRows.lean that lists a variable, with what it lists TIED to the program's text (the seventh form; the later family's looks); each row that meets fmt, with fmt's text TOLD by the authors' own Lean function (tested against real Go, not proved from fmt's source: count such statements apart). THE CARD IS WHAT COUNTS. Prove the row's statement (the work); the ties are given (YtebmhicdlamnbaaDoorTie.lean); close each card by the builder's one call (the guide's Derived/Test/ToyasCard.lean, 'card_holds'). Laid BY PROGRAM, IN A SANDBOX (cutbox-door.mjs). By AI agents, Wed Nov 11 2026. No macro, syntax, notation, axiom, sorry.
-/
import Derived.Test.YtebmhicdlamnbaaDoorRows
import GoSem.ClaimSeven
namespace Go.Proofs.YtebmhicdlamnbaaDoor
namespace Rows

/-- THE TIED CARD OF 'laws.FnExactQuotedText'. -/
def fnExactQuotedTextCard : Claim7 := { stood := { row := fnExactQuotedTextRow, standIns := [], harness := (true, "2708552ab7395558f8f31d82152a98bfb161282a952c688cd46156ff2df50ff3"), looks := false }, kinds := [], alts := [], laidByText := true, laidKinds := [.data, .pinned], laidTests := true, laidLooks := .later }
def FnExactQuotedTextCardSaid : Prop := Claim7.holds Tryd.pinned (.plain (OpenSpec.ofChange fnExactQuotedTextSpec)) fnExactQuotedTextCard

/-- THE TIED CARD OF 'laws.FnQuoted'. -/
def fnQuotedCard : Claim7 := { stood := { row := fnQuotedRow, standIns := [], harness := (true, "2708552ab7395558f8f31d82152a98bfb161282a952c688cd46156ff2df50ff3"), looks := false }, kinds := [], alts := [], laidByText := true, laidKinds := [.data, .pinned], laidTests := true, laidLooks := .later }
def FnQuotedCardSaid : Prop := Claim7.holds Tryd.pinned (.plain (OpenSpec.ofChange fnQuotedSpec)) fnQuotedCard

/-- THE TIED CARD OF 'laws.FnExactLongestLine'. -/
def fnExactLongestLineCard : Claim7 := { stood := { row := fnExactLongestLineRow, standIns := [], harness := (true, "2708552ab7395558f8f31d82152a98bfb161282a952c688cd46156ff2df50ff3"), looks := false }, kinds := [], alts := [], laidByText := true, laidKinds := [.data, .pinned], laidTests := true, laidLooks := .later }
def FnExactLongestLineCardSaid : Prop := Claim7.holds Tryd.pinned (.plain (OpenSpec.ofChange fnExactLongestLineSpec)) fnExactLongestLineCard

/-- THE TIED CARD OF 'laws.FnExactSafeValue'. -/
def fnExactSafeValueCard : Claim7 := { stood := { row := fnExactSafeValueRow, standIns := [], harness := (true, "2708552ab7395558f8f31d82152a98bfb161282a952c688cd46156ff2df50ff3"), looks := false }, kinds := [], alts := [], laidByText := true, laidKinds := [.data, .pinned], laidTests := true, laidLooks := .later }
def FnExactSafeValueCardSaid : Prop := Claim7.holds Tryd.pinned (.plain (OpenSpec.ofChange fnExactSafeValueSpec)) fnExactSafeValueCard

/-- THE TIED CARD OF 'laws.FnExactEncodeWords'. -/
def fnExactEncodeWordsCard : Claim7 := { stood := { row := fnExactEncodeWordsRow, standIns := [], harness := (true, "2708552ab7395558f8f31d82152a98bfb161282a952c688cd46156ff2df50ff3"), looks := false }, kinds := [], alts := [], laidByText := true, laidKinds := [.data, .pinned], laidTests := true, laidLooks := .later }
def FnExactEncodeWordsCardSaid : Prop := Claim7.holds Tryd.pinned (.plain (OpenSpec.ofChange fnExactEncodeWordsSpec)) fnExactEncodeWordsCard

/-- THE TIED CARD OF 'laws.FnExactDecodeWords'. -/
def fnExactDecodeWordsCard : Claim7 := { stood := { row := fnExactDecodeWordsRow, standIns := [], harness := (true, "2708552ab7395558f8f31d82152a98bfb161282a952c688cd46156ff2df50ff3"), looks := false }, kinds := [], alts := [], laidByText := true, laidKinds := [.data, .pinned], laidTests := true, laidLooks := .later }
def FnExactDecodeWordsCardSaid : Prop := Claim7.holds Tryd.pinned (.plain (OpenSpec.ofChange fnExactDecodeWordsSpec)) fnExactDecodeWordsCard

/-- THE TIED CARD OF 'laws.FnExactFoldHeader'. -/
def fnExactFoldHeaderCard : Claim7 := { stood := { row := fnExactFoldHeaderRow, standIns := [], harness := (true, "2708552ab7395558f8f31d82152a98bfb161282a952c688cd46156ff2df50ff3"), looks := false }, kinds := [], alts := [], laidByText := true, laidKinds := [.data, .pinned], laidTests := true, laidLooks := .later }
def FnExactFoldHeaderCardSaid : Prop := Claim7.holds Tryd.pinned (.plain (OpenSpec.ofChange fnExactFoldHeaderSpec)) fnExactFoldHeaderCard

/-- THE TIED CARD OF 'laws.FnExactUnfoldHeader'. -/
def fnExactUnfoldHeaderCard : Claim7 := { stood := { row := fnExactUnfoldHeaderRow, standIns := [], harness := (true, "2708552ab7395558f8f31d82152a98bfb161282a952c688cd46156ff2df50ff3"), looks := false }, kinds := [], alts := [], laidByText := true, laidKinds := [.data, .pinned], laidTests := true, laidLooks := .later }
def FnExactUnfoldHeaderCardSaid : Prop := Claim7.holds Tryd.pinned (.plain (OpenSpec.ofChange fnExactUnfoldHeaderSpec)) fnExactUnfoldHeaderCard

/-- THE TIED CARD OF 'laws.FnFolds'. -/
def fnFoldsCard : Claim7 := { stood := { row := fnFoldsRow, standIns := [], harness := (true, "2708552ab7395558f8f31d82152a98bfb161282a952c688cd46156ff2df50ff3"), looks := false }, kinds := [], alts := [], laidByText := true, laidKinds := [.data, .pinned], laidTests := true, laidLooks := .later }
def FnFoldsCardSaid : Prop := Claim7.holds Tryd.pinned (.plain (OpenSpec.ofChange fnFoldsSpec)) fnFoldsCard

/-- THE SECOND FORM's CARD OF 'laws.FnExactQuotedText'. -/
def fnExactQuotedTextUptoCard : Claim7 := { stood := { row := fnExactQuotedTextUptoRow, standIns := [], harness := (true, "2708552ab7395558f8f31d82152a98bfb161282a952c688cd46156ff2df50ff3"), looks := false }, kinds := [], alts := [], laidByText := true, laidKinds := [.data, .pinned], laidTests := true, laidLooks := .later }
def FnExactQuotedTextUptoCardSaid : Prop := Claim7.holds Tryd.pinned (.plain (OpenSpec.upto fnExactQuotedTextSpec)) fnExactQuotedTextUptoCard

/-- THE SECOND FORM's CARD OF 'laws.FnQuoted'. -/
def fnQuotedUptoCard : Claim7 := { stood := { row := fnQuotedUptoRow, standIns := [], harness := (true, "2708552ab7395558f8f31d82152a98bfb161282a952c688cd46156ff2df50ff3"), looks := false }, kinds := [], alts := [], laidByText := true, laidKinds := [.data, .pinned], laidTests := true, laidLooks := .later }
def FnQuotedUptoCardSaid : Prop := Claim7.holds Tryd.pinned (.plain (OpenSpec.upto fnQuotedSpec)) fnQuotedUptoCard

/-- THE SECOND FORM's CARD OF 'laws.FnExactLongestLine'. -/
def fnExactLongestLineUptoCard : Claim7 := { stood := { row := fnExactLongestLineUptoRow, standIns := [], harness := (true, "2708552ab7395558f8f31d82152a98bfb161282a952c688cd46156ff2df50ff3"), looks := false }, kinds := [], alts := [], laidByText := true, laidKinds := [.data, .pinned], laidTests := true, laidLooks := .later }
def FnExactLongestLineUptoCardSaid : Prop := Claim7.holds Tryd.pinned (.plain (OpenSpec.upto fnExactLongestLineSpec)) fnExactLongestLineUptoCard

/-- THE SECOND FORM's CARD OF 'laws.FnExactSafeValue'. -/
def fnExactSafeValueUptoCard : Claim7 := { stood := { row := fnExactSafeValueUptoRow, standIns := [], harness := (true, "2708552ab7395558f8f31d82152a98bfb161282a952c688cd46156ff2df50ff3"), looks := false }, kinds := [], alts := [], laidByText := true, laidKinds := [.data, .pinned], laidTests := true, laidLooks := .later }
def FnExactSafeValueUptoCardSaid : Prop := Claim7.holds Tryd.pinned (.plain (OpenSpec.upto fnExactSafeValueSpec)) fnExactSafeValueUptoCard

/-- THE SECOND FORM's CARD OF 'laws.FnExactEncodeWords'. -/
def fnExactEncodeWordsUptoCard : Claim7 := { stood := { row := fnExactEncodeWordsUptoRow, standIns := [], harness := (true, "2708552ab7395558f8f31d82152a98bfb161282a952c688cd46156ff2df50ff3"), looks := false }, kinds := [], alts := [], laidByText := true, laidKinds := [.data, .pinned], laidTests := true, laidLooks := .later }
def FnExactEncodeWordsUptoCardSaid : Prop := Claim7.holds Tryd.pinned (.plain (OpenSpec.upto fnExactEncodeWordsSpec)) fnExactEncodeWordsUptoCard

/-- THE SECOND FORM's CARD OF 'laws.FnExactDecodeWords'. -/
def fnExactDecodeWordsUptoCard : Claim7 := { stood := { row := fnExactDecodeWordsUptoRow, standIns := [], harness := (true, "2708552ab7395558f8f31d82152a98bfb161282a952c688cd46156ff2df50ff3"), looks := false }, kinds := [], alts := [], laidByText := true, laidKinds := [.data, .pinned], laidTests := true, laidLooks := .later }
def FnExactDecodeWordsUptoCardSaid : Prop := Claim7.holds Tryd.pinned (.plain (OpenSpec.upto fnExactDecodeWordsSpec)) fnExactDecodeWordsUptoCard

/-- THE SECOND FORM's CARD OF 'laws.FnExactFoldHeader'. -/
def fnExactFoldHeaderUptoCard : Claim7 := { stood := { row := fnExactFoldHeaderUptoRow, standIns := [], harness := (true, "2708552ab7395558f8f31d82152a98bfb161282a952c688cd46156ff2df50ff3"), looks := false }, kinds := [], alts := [], laidByText := true, laidKinds := [.data, .pinned], laidTests := true, laidLooks := .later }
def FnExactFoldHeaderUptoCardSaid : Prop := Claim7.holds Tryd.pinned (.plain (OpenSpec.upto fnExactFoldHeaderSpec)) fnExactFoldHeaderUptoCard

/-- THE SECOND FORM's CARD OF 'laws.FnExactUnfoldHeader'. -/
def fnExactUnfoldHeaderUptoCard : Claim7 := { stood := { row := fnExactUnfoldHeaderUptoRow, standIns := [], harness := (true, "2708552ab7395558f8f31d82152a98bfb161282a952c688cd46156ff2df50ff3"), looks := false }, kinds := [], alts := [], laidByText := true, laidKinds := [.data, .pinned], laidTests := true, laidLooks := .later }
def FnExactUnfoldHeaderUptoCardSaid : Prop := Claim7.holds Tryd.pinned (.plain (OpenSpec.upto fnExactUnfoldHeaderSpec)) fnExactUnfoldHeaderUptoCard

/-- THE SECOND FORM's CARD OF 'laws.FnFolds'. -/
def fnFoldsUptoCard : Claim7 := { stood := { row := fnFoldsUptoRow, standIns := [], harness := (true, "2708552ab7395558f8f31d82152a98bfb161282a952c688cd46156ff2df50ff3"), looks := false }, kinds := [], alts := [], laidByText := true, laidKinds := [.data, .pinned], laidTests := true, laidLooks := .later }
def FnFoldsUptoCardSaid : Prop := Claim7.holds Tryd.pinned (.plain (OpenSpec.upto fnFoldsSpec)) fnFoldsUptoCard
end Rows
end Go.Proofs.YtebmhicdlamnbaaDoor
