/-
  DERIVED. GIVEN WITH THE SEED: THE CARDS: each row of YtpmlhgmmobpilaaGreatDoorRows.lean that lists a variable, with what it lists TIED to the program's text (the seventh form; the later family's looks); each row that meets fmt, with fmt's text TOLD by the authors' own Lean function (tested against real Go, not proved from fmt's source: count such statements apart). THE CARD IS WHAT COUNTS. Prove the row's statement (the work); the ties are given (YtpmlhgmmobpilaaGreatDoorTie.lean); close each card by the builder's one call (the guide's Derived/Test/ToyasCard.lean, 'card_holds'). Laid BY PROGRAM, IN A SANDBOX (cutbox-door.mjs). By AI agents, Wed Nov 11 2026. No macro, syntax, notation, axiom, sorry.
-/
import Derived.Test.YtpmlhgmmobpilaaGreatDoorRows
import GoSem.ClaimSeven
namespace Go.Proofs.YtpmlhgmmobpilaaGreatDoor
namespace Rows

/-- THE TIED CARD OF 'customhouselaw08.MoneySplitsMatch'. -/
def moneySplitsMatchCard : Claim7 := { stood := { row := moneySplitsMatchRow, standIns := [], harness := (true, "d60fa2ec5975afe5131a72e8a32b6472d707bab0eab59f3df7de95049998be96"), looks := true }, kinds := [], alts := [], laidByText := true, laidKinds := [.data, .data, .data, .data, .sentinel, .sentinel, .pinned], laidTests := true, laidLooks := .later }
def MoneySplitsMatchCardSaid : Prop := Claim7.holds Tryz.pinned (.plain (OpenSpec.ofChange moneySplitsMatchSpec)) moneySplitsMatchCard

/-- THE TIED CARD OF 'customhouselaw08.MoneyConverts'. -/
def moneyConvertsCard : Claim7 := { stood := { row := moneyConvertsRow, standIns := [], harness := (true, "d60fa2ec5975afe5131a72e8a32b6472d707bab0eab59f3df7de95049998be96"), looks := true }, kinds := [], alts := [], laidByText := true, laidKinds := [.data, .data, .data, .data, .sentinel, .sentinel, .pinned], laidTests := true, laidLooks := .later }
def MoneyConvertsCardSaid : Prop := Claim7.holds Tryz.pinned (.plain (OpenSpec.ofChange moneyConvertsSpec)) moneyConvertsCard

/-- THE TIED CARD OF 'customhouselaw08.MoneyRates'. -/
def moneyRatesCard : Claim7 := { stood := { row := moneyRatesRow, standIns := [], harness := (true, "d60fa2ec5975afe5131a72e8a32b6472d707bab0eab59f3df7de95049998be96"), looks := true }, kinds := [], alts := [], laidByText := true, laidKinds := [.data, .data, .data, .data, .sentinel, .sentinel, .pinned], laidTests := true, laidLooks := .later }
def MoneyRatesCardSaid : Prop := Claim7.holds Tryz.pinned (.plain (OpenSpec.ofChange moneyRatesSpec)) moneyRatesCard

/-- THE TIED CARD OF 'customhouselaw08.MoneyRounds'. -/
def moneyRoundsCard : Claim7 := { stood := { row := moneyRoundsRow, standIns := [], harness := (true, "d60fa2ec5975afe5131a72e8a32b6472d707bab0eab59f3df7de95049998be96"), looks := true }, kinds := [], alts := [], laidByText := true, laidKinds := [.data, .data, .data, .data, .sentinel, .sentinel, .pinned], laidTests := true, laidLooks := .later }
def MoneyRoundsCardSaid : Prop := Claim7.holds Tryz.pinned (.plain (OpenSpec.ofChange moneyRoundsSpec)) moneyRoundsCard

/-- THE TIED CARD OF 'customhouselaw08.MoneySplits'. -/
def moneySplitsCard : Claim7 := { stood := { row := moneySplitsRow, standIns := [], harness := (true, "d60fa2ec5975afe5131a72e8a32b6472d707bab0eab59f3df7de95049998be96"), looks := true }, kinds := [], alts := [], laidByText := true, laidKinds := [.data, .data, .data, .data, .sentinel, .sentinel, .pinned], laidTests := true, laidLooks := .later }
def MoneySplitsCardSaid : Prop := Claim7.holds Tryz.pinned (.plain (OpenSpec.ofChange moneySplitsSpec)) moneySplitsCard

/-- THE TIED CARD OF 'customhouselaw22.ControlMatchesReference'. -/
def controlMatchesReferenceCard : Claim7 := { stood := { row := controlMatchesReferenceRow, standIns := [], harness := (true, "d60fa2ec5975afe5131a72e8a32b6472d707bab0eab59f3df7de95049998be96"), looks := true }, kinds := [], alts := [], laidByText := true, laidKinds := [.data, .data, .data, .data, .sentinel, .sentinel, .pinned], laidTests := true, laidLooks := .later }
def ControlMatchesReferenceCardSaid : Prop := Claim7.holds Tryz.pinned (.plain (OpenSpec.ofChange controlMatchesReferenceSpec)) controlMatchesReferenceCard

/-- THE TIED CARD OF 'customhouselaw08.MoneyMatchesReference'. -/
def moneyMatchesReferenceCard : Claim7 := { stood := { row := moneyMatchesReferenceRow, standIns := [], harness := (true, "d60fa2ec5975afe5131a72e8a32b6472d707bab0eab59f3df7de95049998be96"), looks := true }, kinds := [], alts := [], laidByText := true, laidKinds := [.data, .data, .data, .data, .sentinel, .sentinel, .pinned], laidTests := true, laidLooks := .later }
def MoneyMatchesReferenceCardSaid : Prop := Claim7.holds Tryz.pinned (.plain (OpenSpec.ofChange moneyMatchesReferenceSpec)) moneyMatchesReferenceCard

/-- THE TIED CARD OF 'customhouselaw08.MoneyTexts'. -/
def moneyTextsCard : Claim7 := { stood := { row := moneyTextsRow, standIns := [], harness := (true, "d60fa2ec5975afe5131a72e8a32b6472d707bab0eab59f3df7de95049998be96"), looks := true }, kinds := [], alts := [], laidByText := true, laidKinds := [.data, .data, .data, .data, .sentinel, .sentinel, .pinned], laidTests := true, laidLooks := .later }
def MoneyTextsCardSaid : Prop := Claim7.holds Tryz.pinned (.plain (OpenSpec.ofChange moneyTextsSpec)) moneyTextsCard

/-- THE SECOND FORM's CARD OF 'customhouselaw08.MoneySplitsMatch'. -/
def moneySplitsMatchUptoCard : Claim7 := { stood := { row := moneySplitsMatchUptoRow, standIns := [], harness := (true, "d60fa2ec5975afe5131a72e8a32b6472d707bab0eab59f3df7de95049998be96"), looks := true }, kinds := [], alts := [], laidByText := true, laidKinds := [.data, .data, .data, .data, .sentinel, .sentinel, .pinned], laidTests := true, laidLooks := .later }
def MoneySplitsMatchUptoCardSaid : Prop := Claim7.holds Tryz.pinned (.plain (OpenSpec.upto moneySplitsMatchSpec)) moneySplitsMatchUptoCard

/-- THE SECOND FORM's CARD OF 'customhouselaw08.MoneyConverts'. -/
def moneyConvertsUptoCard : Claim7 := { stood := { row := moneyConvertsUptoRow, standIns := [], harness := (true, "d60fa2ec5975afe5131a72e8a32b6472d707bab0eab59f3df7de95049998be96"), looks := true }, kinds := [], alts := [], laidByText := true, laidKinds := [.data, .data, .data, .data, .sentinel, .sentinel, .pinned], laidTests := true, laidLooks := .later }
def MoneyConvertsUptoCardSaid : Prop := Claim7.holds Tryz.pinned (.plain (OpenSpec.upto moneyConvertsSpec)) moneyConvertsUptoCard

/-- THE SECOND FORM's CARD OF 'customhouselaw08.MoneyRates'. -/
def moneyRatesUptoCard : Claim7 := { stood := { row := moneyRatesUptoRow, standIns := [], harness := (true, "d60fa2ec5975afe5131a72e8a32b6472d707bab0eab59f3df7de95049998be96"), looks := true }, kinds := [], alts := [], laidByText := true, laidKinds := [.data, .data, .data, .data, .sentinel, .sentinel, .pinned], laidTests := true, laidLooks := .later }
def MoneyRatesUptoCardSaid : Prop := Claim7.holds Tryz.pinned (.plain (OpenSpec.upto moneyRatesSpec)) moneyRatesUptoCard

/-- THE SECOND FORM's CARD OF 'customhouselaw08.MoneyRounds'. -/
def moneyRoundsUptoCard : Claim7 := { stood := { row := moneyRoundsUptoRow, standIns := [], harness := (true, "d60fa2ec5975afe5131a72e8a32b6472d707bab0eab59f3df7de95049998be96"), looks := true }, kinds := [], alts := [], laidByText := true, laidKinds := [.data, .data, .data, .data, .sentinel, .sentinel, .pinned], laidTests := true, laidLooks := .later }
def MoneyRoundsUptoCardSaid : Prop := Claim7.holds Tryz.pinned (.plain (OpenSpec.upto moneyRoundsSpec)) moneyRoundsUptoCard

/-- THE SECOND FORM's CARD OF 'customhouselaw08.MoneySplits'. -/
def moneySplitsUptoCard : Claim7 := { stood := { row := moneySplitsUptoRow, standIns := [], harness := (true, "d60fa2ec5975afe5131a72e8a32b6472d707bab0eab59f3df7de95049998be96"), looks := true }, kinds := [], alts := [], laidByText := true, laidKinds := [.data, .data, .data, .data, .sentinel, .sentinel, .pinned], laidTests := true, laidLooks := .later }
def MoneySplitsUptoCardSaid : Prop := Claim7.holds Tryz.pinned (.plain (OpenSpec.upto moneySplitsSpec)) moneySplitsUptoCard

/-- THE SECOND FORM's CARD OF 'customhouselaw22.ControlMatchesReference'. -/
def controlMatchesReferenceUptoCard : Claim7 := { stood := { row := controlMatchesReferenceUptoRow, standIns := [], harness := (true, "d60fa2ec5975afe5131a72e8a32b6472d707bab0eab59f3df7de95049998be96"), looks := true }, kinds := [], alts := [], laidByText := true, laidKinds := [.data, .data, .data, .data, .sentinel, .sentinel, .pinned], laidTests := true, laidLooks := .later }
def ControlMatchesReferenceUptoCardSaid : Prop := Claim7.holds Tryz.pinned (.plain (OpenSpec.upto controlMatchesReferenceSpec)) controlMatchesReferenceUptoCard

/-- THE SECOND FORM's CARD OF 'customhouselaw08.MoneyMatchesReference'. -/
def moneyMatchesReferenceUptoCard : Claim7 := { stood := { row := moneyMatchesReferenceUptoRow, standIns := [], harness := (true, "d60fa2ec5975afe5131a72e8a32b6472d707bab0eab59f3df7de95049998be96"), looks := true }, kinds := [], alts := [], laidByText := true, laidKinds := [.data, .data, .data, .data, .sentinel, .sentinel, .pinned], laidTests := true, laidLooks := .later }
def MoneyMatchesReferenceUptoCardSaid : Prop := Claim7.holds Tryz.pinned (.plain (OpenSpec.upto moneyMatchesReferenceSpec)) moneyMatchesReferenceUptoCard

/-- THE SECOND FORM's CARD OF 'customhouselaw08.MoneyTexts'. -/
def moneyTextsUptoCard : Claim7 := { stood := { row := moneyTextsUptoRow, standIns := [], harness := (true, "d60fa2ec5975afe5131a72e8a32b6472d707bab0eab59f3df7de95049998be96"), looks := true }, kinds := [], alts := [], laidByText := true, laidKinds := [.data, .data, .data, .data, .sentinel, .sentinel, .pinned], laidTests := true, laidLooks := .later }
def MoneyTextsUptoCardSaid : Prop := Claim7.holds Tryz.pinned (.plain (OpenSpec.upto moneyTextsSpec)) moneyTextsUptoCard
end Rows
end Go.Proofs.YtpmlhgmmobpilaaGreatDoor
