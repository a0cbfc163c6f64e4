/-
  DERIVED. GIVEN WITH THE SEED: THE CARDS: each row of YtjjlnahipiinfaaGreatDoorRows.lean that lists a variable, with what it lists TIED to the program's text (the seventh form; the later family's looks); each row that meets fmt, with fmt's text TOLD by the authors' own Lean function (tested against real Go, not proved from fmt's source: count such statements apart). THE CARD IS WHAT COUNTS. Prove the row's statement (the work); the ties are given (YtjjlnahipiinfaaGreatDoorTie.lean); close each card by the builder's one call (the guide's Derived/Test/ToyasCard.lean, 'card_holds'). Laid BY PROGRAM, IN A SANDBOX (cutbox-door.mjs). By AI agents, Wed Nov 11 2026. No macro, syntax, notation, axiom, sorry.
-/
import Derived.Test.YtjjlnahipiinfaaGreatDoorRows
import GoSem.ClaimSeven
namespace Go.Proofs.YtjjlnahipiinfaaGreatDoor
namespace Rows

/-- THE TIED CARD OF 'customhouselaw19.LinearMatchesReference'. -/
def linearMatchesReferenceCard : Claim7 := { stood := { row := linearMatchesReferenceRow, standIns := [], harness := (true, "783e0b931c30ebbd985d989ad461b5883aabd83eebcb716fb258428631cbadcf"), looks := true }, kinds := [], alts := [], laidByText := true, laidKinds := [.data, .data, .data, .data, .sentinel, .sentinel, .pinned], laidTests := true, laidLooks := .later }
def LinearMatchesReferenceCardSaid : Prop := Claim7.holds Tryz.pinned (.plain (OpenSpec.ofChange linearMatchesReferenceSpec)) linearMatchesReferenceCard

/-- THE TIED CARD OF 'customhouselaw19.LinearTurned'. -/
def linearTurnedCard : Claim7 := { stood := { row := linearTurnedRow, standIns := [], harness := (true, "783e0b931c30ebbd985d989ad461b5883aabd83eebcb716fb258428631cbadcf"), looks := true }, kinds := [], alts := [], laidByText := true, laidKinds := [.data, .data, .data, .data, .sentinel, .sentinel, .pinned], laidTests := true, laidLooks := .later }
def LinearTurnedCardSaid : Prop := Claim7.holds Tryz.pinned (.plain (OpenSpec.ofChange linearTurnedSpec)) linearTurnedCard

/-- THE TIED CARD OF 'customhouselaw19.LinearDepends'. -/
def linearDependsCard : Claim7 := { stood := { row := linearDependsRow, standIns := [], harness := (true, "783e0b931c30ebbd985d989ad461b5883aabd83eebcb716fb258428631cbadcf"), looks := true }, kinds := [], alts := [], laidByText := true, laidKinds := [.data, .data, .data, .data, .sentinel, .sentinel, .pinned], laidTests := true, laidLooks := .later }
def LinearDependsCardSaid : Prop := Claim7.holds Tryz.pinned (.plain (OpenSpec.ofChange linearDependsSpec)) linearDependsCard

/-- THE TIED CARD OF 'customhouselaw19.LinearSolves'. -/
def linearSolvesCard : Claim7 := { stood := { row := linearSolvesRow, standIns := [], harness := (true, "783e0b931c30ebbd985d989ad461b5883aabd83eebcb716fb258428631cbadcf"), looks := true }, kinds := [], alts := [], laidByText := true, laidKinds := [.data, .data, .data, .data, .sentinel, .sentinel, .pinned], laidTests := true, laidLooks := .later }
def LinearSolvesCardSaid : Prop := Claim7.holds Tryz.pinned (.plain (OpenSpec.ofChange linearSolvesSpec)) linearSolvesCard

/-- THE TIED CARD OF 'customhouselaw19.LinearOnly'. -/
def linearOnlyCard : Claim7 := { stood := { row := linearOnlyRow, standIns := [], harness := (true, "783e0b931c30ebbd985d989ad461b5883aabd83eebcb716fb258428631cbadcf"), looks := true }, kinds := [], alts := [], laidByText := true, laidKinds := [.data, .data, .data, .data, .sentinel, .sentinel, .pinned], laidTests := true, laidLooks := .later }
def LinearOnlyCardSaid : Prop := Claim7.holds Tryz.pinned (.plain (OpenSpec.ofChange linearOnlySpec)) linearOnlyCard

/-- THE TIED CARD OF 'customhouselaw19.LinearMultiples'. -/
def linearMultiplesCard : Claim7 := { stood := { row := linearMultiplesRow, standIns := [], harness := (true, "783e0b931c30ebbd985d989ad461b5883aabd83eebcb716fb258428631cbadcf"), looks := true }, kinds := [], alts := [], laidByText := true, laidKinds := [.data, .data, .data, .data, .sentinel, .sentinel, .pinned], laidTests := true, laidLooks := .later }
def LinearMultiplesCardSaid : Prop := Claim7.holds Tryz.pinned (.plain (OpenSpec.ofChange linearMultiplesSpec)) linearMultiplesCard

/-- THE TIED CARD OF 'customhouselaw19.LinearSums'. -/
def linearSumsCard : Claim7 := { stood := { row := linearSumsRow, standIns := [], harness := (true, "783e0b931c30ebbd985d989ad461b5883aabd83eebcb716fb258428631cbadcf"), looks := true }, kinds := [], alts := [], laidByText := true, laidKinds := [.data, .data, .data, .data, .sentinel, .sentinel, .pinned], laidTests := true, laidLooks := .later }
def LinearSumsCardSaid : Prop := Claim7.holds Tryz.pinned (.plain (OpenSpec.ofChange linearSumsSpec)) linearSumsCard

/-- THE SECOND FORM's CARD OF 'customhouselaw19.LinearMatchesReference'. -/
def linearMatchesReferenceUptoCard : Claim7 := { stood := { row := linearMatchesReferenceUptoRow, standIns := [], harness := (true, "783e0b931c30ebbd985d989ad461b5883aabd83eebcb716fb258428631cbadcf"), looks := true }, kinds := [], alts := [], laidByText := true, laidKinds := [.data, .data, .data, .data, .sentinel, .sentinel, .pinned], laidTests := true, laidLooks := .later }
def LinearMatchesReferenceUptoCardSaid : Prop := Claim7.holds Tryz.pinned (.plain (OpenSpec.upto linearMatchesReferenceSpec)) linearMatchesReferenceUptoCard

/-- THE SECOND FORM's CARD OF 'customhouselaw19.LinearTurned'. -/
def linearTurnedUptoCard : Claim7 := { stood := { row := linearTurnedUptoRow, standIns := [], harness := (true, "783e0b931c30ebbd985d989ad461b5883aabd83eebcb716fb258428631cbadcf"), looks := true }, kinds := [], alts := [], laidByText := true, laidKinds := [.data, .data, .data, .data, .sentinel, .sentinel, .pinned], laidTests := true, laidLooks := .later }
def LinearTurnedUptoCardSaid : Prop := Claim7.holds Tryz.pinned (.plain (OpenSpec.upto linearTurnedSpec)) linearTurnedUptoCard

/-- THE SECOND FORM's CARD OF 'customhouselaw19.LinearDepends'. -/
def linearDependsUptoCard : Claim7 := { stood := { row := linearDependsUptoRow, standIns := [], harness := (true, "783e0b931c30ebbd985d989ad461b5883aabd83eebcb716fb258428631cbadcf"), looks := true }, kinds := [], alts := [], laidByText := true, laidKinds := [.data, .data, .data, .data, .sentinel, .sentinel, .pinned], laidTests := true, laidLooks := .later }
def LinearDependsUptoCardSaid : Prop := Claim7.holds Tryz.pinned (.plain (OpenSpec.upto linearDependsSpec)) linearDependsUptoCard

/-- THE SECOND FORM's CARD OF 'customhouselaw19.LinearSolves'. -/
def linearSolvesUptoCard : Claim7 := { stood := { row := linearSolvesUptoRow, standIns := [], harness := (true, "783e0b931c30ebbd985d989ad461b5883aabd83eebcb716fb258428631cbadcf"), looks := true }, kinds := [], alts := [], laidByText := true, laidKinds := [.data, .data, .data, .data, .sentinel, .sentinel, .pinned], laidTests := true, laidLooks := .later }
def LinearSolvesUptoCardSaid : Prop := Claim7.holds Tryz.pinned (.plain (OpenSpec.upto linearSolvesSpec)) linearSolvesUptoCard

/-- THE SECOND FORM's CARD OF 'customhouselaw19.LinearOnly'. -/
def linearOnlyUptoCard : Claim7 := { stood := { row := linearOnlyUptoRow, standIns := [], harness := (true, "783e0b931c30ebbd985d989ad461b5883aabd83eebcb716fb258428631cbadcf"), looks := true }, kinds := [], alts := [], laidByText := true, laidKinds := [.data, .data, .data, .data, .sentinel, .sentinel, .pinned], laidTests := true, laidLooks := .later }
def LinearOnlyUptoCardSaid : Prop := Claim7.holds Tryz.pinned (.plain (OpenSpec.upto linearOnlySpec)) linearOnlyUptoCard

/-- THE SECOND FORM's CARD OF 'customhouselaw19.LinearMultiples'. -/
def linearMultiplesUptoCard : Claim7 := { stood := { row := linearMultiplesUptoRow, standIns := [], harness := (true, "783e0b931c30ebbd985d989ad461b5883aabd83eebcb716fb258428631cbadcf"), looks := true }, kinds := [], alts := [], laidByText := true, laidKinds := [.data, .data, .data, .data, .sentinel, .sentinel, .pinned], laidTests := true, laidLooks := .later }
def LinearMultiplesUptoCardSaid : Prop := Claim7.holds Tryz.pinned (.plain (OpenSpec.upto linearMultiplesSpec)) linearMultiplesUptoCard

/-- THE SECOND FORM's CARD OF 'customhouselaw19.LinearSums'. -/
def linearSumsUptoCard : Claim7 := { stood := { row := linearSumsUptoRow, standIns := [], harness := (true, "783e0b931c30ebbd985d989ad461b5883aabd83eebcb716fb258428631cbadcf"), looks := true }, kinds := [], alts := [], laidByText := true, laidKinds := [.data, .data, .data, .data, .sentinel, .sentinel, .pinned], laidTests := true, laidLooks := .later }
def LinearSumsUptoCardSaid : Prop := Claim7.holds Tryz.pinned (.plain (OpenSpec.upto linearSumsSpec)) linearSumsUptoCard
end Rows
end Go.Proofs.YtjjlnahipiinfaaGreatDoor
