/-
  DERIVED. GIVEN WITH THE SEED: THE CARDS: each row of YthggedpgcchneaaGreatDoorRows.lean that lists a variable, with what it lists TIED to the program's text (the seventh form; the later family's looks); each row that meets fmt, with fmt's text TOLD by the authors' own Lean function (tested against real Go, not proved from fmt's source: count such statements apart). THE CARD IS WHAT COUNTS. Prove the row's statement (the work); the ties are given (YthggedpgcchneaaGreatDoorTie.lean); close each card by the builder's one call (the guide's Derived/Test/ToyasCard.lean, 'card_holds'). Laid BY PROGRAM, IN A SANDBOX (cutbox-door.mjs). By AI agents, Wed Nov 11 2026. No macro, syntax, notation, axiom, sorry.
-/
import Derived.Test.YthggedpgcchneaaGreatDoorRows
import GoSem.ClaimSeven
namespace Go.Proofs.YthggedpgcchneaaGreatDoor
namespace Rows

/-- THE TIED CARD OF 'customhouselaw18.CircleMatchesReference'. -/
def circleMatchesReferenceCard : Claim7 := { stood := { row := circleMatchesReferenceRow, standIns := [], harness := (true, "69e1d4d453e9c7e82ceefc32dc6d1840611b12f745d81a8c3a16aa0d398faac5"), looks := true }, kinds := [], alts := [], laidByText := true, laidKinds := [.data, .data, .data, .data, .sentinel, .sentinel, .pinned], laidTests := true, laidLooks := .later }
def CircleMatchesReferenceCardSaid : Prop := Claim7.holds Tryz.pinned (.plain (OpenSpec.ofChange circleMatchesReferenceSpec)) circleMatchesReferenceCard

/-- THE TIED CARD OF 'customhouselaw18.CircleOrder'. -/
def circleOrderCard : Claim7 := { stood := { row := circleOrderRow, standIns := [], harness := (true, "69e1d4d453e9c7e82ceefc32dc6d1840611b12f745d81a8c3a16aa0d398faac5"), looks := true }, kinds := [], alts := [], laidByText := true, laidKinds := [.data, .data, .data, .data, .sentinel, .sentinel, .pinned], laidTests := true, laidLooks := .later }
def CircleOrderCardSaid : Prop := Claim7.holds Tryz.pinned (.plain (OpenSpec.ofChange circleOrderSpec)) circleOrderCard

/-- THE TIED CARD OF 'customhouselaw18.CircleMeets'. -/
def circleMeetsCard : Claim7 := { stood := { row := circleMeetsRow, standIns := [], harness := (true, "69e1d4d453e9c7e82ceefc32dc6d1840611b12f745d81a8c3a16aa0d398faac5"), looks := true }, kinds := [], alts := [], laidByText := true, laidKinds := [.data, .data, .data, .data, .sentinel, .sentinel, .pinned], laidTests := true, laidLooks := .later }
def CircleMeetsCardSaid : Prop := Claim7.holds Tryz.pinned (.plain (OpenSpec.ofChange circleMeetsSpec)) circleMeetsCard

/-- THE TIED CARD OF 'customhouselaw18.CircleRanks'. -/
def circleRanksCard : Claim7 := { stood := { row := circleRanksRow, standIns := [], harness := (true, "69e1d4d453e9c7e82ceefc32dc6d1840611b12f745d81a8c3a16aa0d398faac5"), looks := true }, kinds := [], alts := [], laidByText := true, laidKinds := [.data, .data, .data, .data, .sentinel, .sentinel, .pinned], laidTests := true, laidLooks := .later }
def CircleRanksCardSaid : Prop := Claim7.holds Tryz.pinned (.plain (OpenSpec.ofChange circleRanksSpec)) circleRanksCard

/-- THE TIED CARD OF 'customhouselaw18.CircleMore'. -/
def circleMoreCard : Claim7 := { stood := { row := circleMoreRow, standIns := [], harness := (true, "69e1d4d453e9c7e82ceefc32dc6d1840611b12f745d81a8c3a16aa0d398faac5"), looks := true }, kinds := [], alts := [], laidByText := true, laidKinds := [.data, .data, .data, .data, .sentinel, .sentinel, .pinned], laidTests := true, laidLooks := .later }
def CircleMoreCardSaid : Prop := Claim7.holds Tryz.pinned (.plain (OpenSpec.ofChange circleMoreSpec)) circleMoreCard

/-- THE TIED CARD OF 'customhouselaw18.CircleSizes'. -/
def circleSizesCard : Claim7 := { stood := { row := circleSizesRow, standIns := [], harness := (true, "69e1d4d453e9c7e82ceefc32dc6d1840611b12f745d81a8c3a16aa0d398faac5"), looks := true }, kinds := [], alts := [], laidByText := true, laidKinds := [.data, .data, .data, .data, .sentinel, .sentinel, .pinned], laidTests := true, laidLooks := .later }
def CircleSizesCardSaid : Prop := Claim7.holds Tryz.pinned (.plain (OpenSpec.ofChange circleSizesSpec)) circleSizesCard

/-- THE SECOND FORM's CARD OF 'customhouselaw18.CircleMatchesReference'. -/
def circleMatchesReferenceUptoCard : Claim7 := { stood := { row := circleMatchesReferenceUptoRow, standIns := [], harness := (true, "69e1d4d453e9c7e82ceefc32dc6d1840611b12f745d81a8c3a16aa0d398faac5"), looks := true }, kinds := [], alts := [], laidByText := true, laidKinds := [.data, .data, .data, .data, .sentinel, .sentinel, .pinned], laidTests := true, laidLooks := .later }
def CircleMatchesReferenceUptoCardSaid : Prop := Claim7.holds Tryz.pinned (.plain (OpenSpec.upto circleMatchesReferenceSpec)) circleMatchesReferenceUptoCard

/-- THE SECOND FORM's CARD OF 'customhouselaw18.CircleOrder'. -/
def circleOrderUptoCard : Claim7 := { stood := { row := circleOrderUptoRow, standIns := [], harness := (true, "69e1d4d453e9c7e82ceefc32dc6d1840611b12f745d81a8c3a16aa0d398faac5"), looks := true }, kinds := [], alts := [], laidByText := true, laidKinds := [.data, .data, .data, .data, .sentinel, .sentinel, .pinned], laidTests := true, laidLooks := .later }
def CircleOrderUptoCardSaid : Prop := Claim7.holds Tryz.pinned (.plain (OpenSpec.upto circleOrderSpec)) circleOrderUptoCard

/-- THE SECOND FORM's CARD OF 'customhouselaw18.CircleMeets'. -/
def circleMeetsUptoCard : Claim7 := { stood := { row := circleMeetsUptoRow, standIns := [], harness := (true, "69e1d4d453e9c7e82ceefc32dc6d1840611b12f745d81a8c3a16aa0d398faac5"), looks := true }, kinds := [], alts := [], laidByText := true, laidKinds := [.data, .data, .data, .data, .sentinel, .sentinel, .pinned], laidTests := true, laidLooks := .later }
def CircleMeetsUptoCardSaid : Prop := Claim7.holds Tryz.pinned (.plain (OpenSpec.upto circleMeetsSpec)) circleMeetsUptoCard

/-- THE SECOND FORM's CARD OF 'customhouselaw18.CircleRanks'. -/
def circleRanksUptoCard : Claim7 := { stood := { row := circleRanksUptoRow, standIns := [], harness := (true, "69e1d4d453e9c7e82ceefc32dc6d1840611b12f745d81a8c3a16aa0d398faac5"), looks := true }, kinds := [], alts := [], laidByText := true, laidKinds := [.data, .data, .data, .data, .sentinel, .sentinel, .pinned], laidTests := true, laidLooks := .later }
def CircleRanksUptoCardSaid : Prop := Claim7.holds Tryz.pinned (.plain (OpenSpec.upto circleRanksSpec)) circleRanksUptoCard

/-- THE SECOND FORM's CARD OF 'customhouselaw18.CircleMore'. -/
def circleMoreUptoCard : Claim7 := { stood := { row := circleMoreUptoRow, standIns := [], harness := (true, "69e1d4d453e9c7e82ceefc32dc6d1840611b12f745d81a8c3a16aa0d398faac5"), looks := true }, kinds := [], alts := [], laidByText := true, laidKinds := [.data, .data, .data, .data, .sentinel, .sentinel, .pinned], laidTests := true, laidLooks := .later }
def CircleMoreUptoCardSaid : Prop := Claim7.holds Tryz.pinned (.plain (OpenSpec.upto circleMoreSpec)) circleMoreUptoCard

/-- THE SECOND FORM's CARD OF 'customhouselaw18.CircleSizes'. -/
def circleSizesUptoCard : Claim7 := { stood := { row := circleSizesUptoRow, standIns := [], harness := (true, "69e1d4d453e9c7e82ceefc32dc6d1840611b12f745d81a8c3a16aa0d398faac5"), looks := true }, kinds := [], alts := [], laidByText := true, laidKinds := [.data, .data, .data, .data, .sentinel, .sentinel, .pinned], laidTests := true, laidLooks := .later }
def CircleSizesUptoCardSaid : Prop := Claim7.holds Tryz.pinned (.plain (OpenSpec.upto circleSizesSpec)) circleSizesUptoCard
end Rows
end Go.Proofs.YthggedpgcchneaaGreatDoor
