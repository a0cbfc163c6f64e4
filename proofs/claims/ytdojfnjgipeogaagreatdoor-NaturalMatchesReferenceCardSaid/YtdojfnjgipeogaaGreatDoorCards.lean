/-
  DERIVED. GIVEN WITH THE SEED: THE CARDS: each row of YtdojfnjgipeogaaGreatDoorRows.lean that lists a variable, with what it lists TIED to the program's text (the seventh form; the later family's looks); each row that meets fmt, with fmt's text TOLD by the authors' own Lean function (tested against real Go, not proved from fmt's source: count such statements apart). THE CARD IS WHAT COUNTS. Prove the row's statement (the work); the ties are given (YtdojfnjgipeogaaGreatDoorTie.lean); close each card by the builder's one call (the guide's Derived/Test/ToyasCard.lean, 'card_holds'). Laid BY PROGRAM, IN A SANDBOX (cutbox-door.mjs). By AI agents, Wed Nov 11 2026. No macro, syntax, notation, axiom, sorry.
-/
import Derived.Test.YtdojfnjgipeogaaGreatDoorRows
import GoSem.ClaimSeven
namespace Go.Proofs.YtdojfnjgipeogaaGreatDoor
namespace Rows

/-- THE TIED CARD OF 'customhouselaw04.NaturalDividesAsReference'. -/
def naturalDividesAsReferenceCard : Claim7 := { stood := { row := naturalDividesAsReferenceRow, standIns := [], harness := (true, "a4ff33f4eb8ef1c626dd479864ed220ced9507125811ca355efc82d0cd011ecb"), looks := true }, kinds := [], alts := [], laidByText := true, laidKinds := [.data, .data, .data, .data, .sentinel, .sentinel, .pinned], laidTests := true, laidLooks := .later }
def NaturalDividesAsReferenceCardSaid : Prop := Claim7.holds Tryz.pinned (.plain (OpenSpec.ofChange naturalDividesAsReferenceSpec)) naturalDividesAsReferenceCard

/-- THE TIED CARD OF 'customhouselaw04.NaturalMatchesReference'. -/
def naturalMatchesReferenceCard : Claim7 := { stood := { row := naturalMatchesReferenceRow, standIns := [], harness := (true, "a4ff33f4eb8ef1c626dd479864ed220ced9507125811ca355efc82d0cd011ecb"), looks := true }, kinds := [], alts := [], laidByText := true, laidKinds := [.data, .data, .data, .data, .sentinel, .sentinel, .pinned], laidTests := true, laidLooks := .later }
def NaturalMatchesReferenceCardSaid : Prop := Claim7.holds Tryz.pinned (.plain (OpenSpec.ofChange naturalMatchesReferenceSpec)) naturalMatchesReferenceCard

/-- THE SECOND FORM's CARD OF 'customhouselaw04.NaturalDividesAsReference'. -/
def naturalDividesAsReferenceUptoCard : Claim7 := { stood := { row := naturalDividesAsReferenceUptoRow, standIns := [], harness := (true, "a4ff33f4eb8ef1c626dd479864ed220ced9507125811ca355efc82d0cd011ecb"), looks := true }, kinds := [], alts := [], laidByText := true, laidKinds := [.data, .data, .data, .data, .sentinel, .sentinel, .pinned], laidTests := true, laidLooks := .later }
def NaturalDividesAsReferenceUptoCardSaid : Prop := Claim7.holds Tryz.pinned (.plain (OpenSpec.upto naturalDividesAsReferenceSpec)) naturalDividesAsReferenceUptoCard

/-- THE SECOND FORM's CARD OF 'customhouselaw04.NaturalMatchesReference'. -/
def naturalMatchesReferenceUptoCard : Claim7 := { stood := { row := naturalMatchesReferenceUptoRow, standIns := [], harness := (true, "a4ff33f4eb8ef1c626dd479864ed220ced9507125811ca355efc82d0cd011ecb"), looks := true }, kinds := [], alts := [], laidByText := true, laidKinds := [.data, .data, .data, .data, .sentinel, .sentinel, .pinned], laidTests := true, laidLooks := .later }
def NaturalMatchesReferenceUptoCardSaid : Prop := Claim7.holds Tryz.pinned (.plain (OpenSpec.upto naturalMatchesReferenceSpec)) naturalMatchesReferenceUptoCard
end Rows
end Go.Proofs.YtdojfnjgipeogaaGreatDoor
