/-
  DERIVED. GIVEN WITH THE SEED: THE CARDS: each row of YtjahnkeafaebdaaGreatDoorRows.lean that lists a variable, with what it lists TIED to the program's text (the seventh form; the later family's looks); each row that meets fmt, with fmt's text TOLD by the authors' own Lean function (tested against real Go, not proved from fmt's source: count such statements apart). THE CARD IS WHAT COUNTS. Prove the row's statement (the work); the ties are given (YtjahnkeafaebdaaGreatDoorTie.lean); close each card by the builder's one call (the guide's Derived/Test/ToyasCard.lean, 'card_holds'). Laid BY PROGRAM, IN A SANDBOX (cutbox-door.mjs). By AI agents, Wed Nov 11 2026. No macro, syntax, notation, axiom, sorry.
-/
import Derived.Test.YtjahnkeafaebdaaGreatDoorRows
import GoSem.ClaimSeven
namespace Go.Proofs.YtjahnkeafaebdaaGreatDoor
namespace Rows

/-- THE TIED CARD OF 'customhouselaw05.RatioFloors'. -/
def ratioFloorsCard : Claim7 := { stood := { row := ratioFloorsRow, standIns := [], harness := (true, "dd5cbdffe1057b383da1d28dbe6e347fd0bd84f6015df6a6002d0882873136f4"), looks := true }, kinds := [], alts := [], laidByText := true, laidKinds := [.data, .data, .data, .data, .sentinel, .sentinel, .pinned], laidTests := true, laidLooks := .later }
def RatioFloorsCardSaid : Prop := Claim7.holds Tryz.pinned (.plain (OpenSpec.ofChange ratioFloorsSpec)) ratioFloorsCard

/-- THE TIED CARD OF 'customhouselaw05.RatioMatchesReference'. -/
def ratioMatchesReferenceCard : Claim7 := { stood := { row := ratioMatchesReferenceRow, standIns := [], harness := (true, "dd5cbdffe1057b383da1d28dbe6e347fd0bd84f6015df6a6002d0882873136f4"), looks := true }, kinds := [], alts := [], laidByText := true, laidKinds := [.data, .data, .data, .data, .sentinel, .sentinel, .pinned], laidTests := true, laidLooks := .later }
def RatioMatchesReferenceCardSaid : Prop := Claim7.holds Tryz.pinned (.plain (OpenSpec.ofChange ratioMatchesReferenceSpec)) ratioMatchesReferenceCard

/-- THE TIED CARD OF 'customhouselaw05.RatioField'. -/
def ratioFieldCard : Claim7 := { stood := { row := ratioFieldRow, standIns := [], harness := (true, "dd5cbdffe1057b383da1d28dbe6e347fd0bd84f6015df6a6002d0882873136f4"), looks := true }, kinds := [], alts := [], laidByText := true, laidKinds := [.data, .data, .data, .data, .sentinel, .sentinel, .pinned], laidTests := true, laidLooks := .later }
def RatioFieldCardSaid : Prop := Claim7.holds Tryz.pinned (.plain (OpenSpec.ofChange ratioFieldSpec)) ratioFieldCard

/-- THE TIED CARD OF 'customhouselaw05.RatioOrder'. -/
def ratioOrderCard : Claim7 := { stood := { row := ratioOrderRow, standIns := [], harness := (true, "dd5cbdffe1057b383da1d28dbe6e347fd0bd84f6015df6a6002d0882873136f4"), looks := true }, kinds := [], alts := [], laidByText := true, laidKinds := [.data, .data, .data, .data, .sentinel, .sentinel, .pinned], laidTests := true, laidLooks := .later }
def RatioOrderCardSaid : Prop := Claim7.holds Tryz.pinned (.plain (OpenSpec.ofChange ratioOrderSpec)) ratioOrderCard

/-- THE TIED CARD OF 'customhouselaw05.RatioValid'. -/
def ratioValidCard : Claim7 := { stood := { row := ratioValidRow, standIns := [], harness := (true, "dd5cbdffe1057b383da1d28dbe6e347fd0bd84f6015df6a6002d0882873136f4"), looks := true }, kinds := [], alts := [], laidByText := true, laidKinds := [.data, .data, .data, .data, .sentinel, .sentinel, .pinned], laidTests := true, laidLooks := .later }
def RatioValidCardSaid : Prop := Claim7.holds Tryz.pinned (.plain (OpenSpec.ofChange ratioValidSpec)) ratioValidCard

/-- THE TIED CARD OF 'customhouselaw05.RatioTexts'. -/
def ratioTextsCard : Claim7 := { stood := { row := ratioTextsRow, standIns := [], harness := (true, "dd5cbdffe1057b383da1d28dbe6e347fd0bd84f6015df6a6002d0882873136f4"), looks := true }, kinds := [], alts := [], laidByText := true, laidKinds := [.data, .data, .data, .data, .sentinel, .sentinel, .pinned], laidTests := true, laidLooks := .later }
def RatioTextsCardSaid : Prop := Claim7.holds Tryz.pinned (.plain (OpenSpec.ofChange ratioTextsSpec)) ratioTextsCard

/-- THE TIED CARD OF 'customhouselaw05.RatioTextsMatch'. -/
def ratioTextsMatchCard : Claim7 := { stood := { row := ratioTextsMatchRow, standIns := [], harness := (true, "dd5cbdffe1057b383da1d28dbe6e347fd0bd84f6015df6a6002d0882873136f4"), looks := true }, kinds := [], alts := [], laidByText := true, laidKinds := [.data, .data, .data, .data, .sentinel, .sentinel, .pinned], laidTests := true, laidLooks := .later }
def RatioTextsMatchCardSaid : Prop := Claim7.holds Tryz.pinned (.plain (OpenSpec.ofChange ratioTextsMatchSpec)) ratioTextsMatchCard

/-- THE SECOND FORM's CARD OF 'customhouselaw05.RatioFloors'. -/
def ratioFloorsUptoCard : Claim7 := { stood := { row := ratioFloorsUptoRow, standIns := [], harness := (true, "dd5cbdffe1057b383da1d28dbe6e347fd0bd84f6015df6a6002d0882873136f4"), looks := true }, kinds := [], alts := [], laidByText := true, laidKinds := [.data, .data, .data, .data, .sentinel, .sentinel, .pinned], laidTests := true, laidLooks := .later }
def RatioFloorsUptoCardSaid : Prop := Claim7.holds Tryz.pinned (.plain (OpenSpec.upto ratioFloorsSpec)) ratioFloorsUptoCard

/-- THE SECOND FORM's CARD OF 'customhouselaw05.RatioMatchesReference'. -/
def ratioMatchesReferenceUptoCard : Claim7 := { stood := { row := ratioMatchesReferenceUptoRow, standIns := [], harness := (true, "dd5cbdffe1057b383da1d28dbe6e347fd0bd84f6015df6a6002d0882873136f4"), looks := true }, kinds := [], alts := [], laidByText := true, laidKinds := [.data, .data, .data, .data, .sentinel, .sentinel, .pinned], laidTests := true, laidLooks := .later }
def RatioMatchesReferenceUptoCardSaid : Prop := Claim7.holds Tryz.pinned (.plain (OpenSpec.upto ratioMatchesReferenceSpec)) ratioMatchesReferenceUptoCard

/-- THE SECOND FORM's CARD OF 'customhouselaw05.RatioField'. -/
def ratioFieldUptoCard : Claim7 := { stood := { row := ratioFieldUptoRow, standIns := [], harness := (true, "dd5cbdffe1057b383da1d28dbe6e347fd0bd84f6015df6a6002d0882873136f4"), looks := true }, kinds := [], alts := [], laidByText := true, laidKinds := [.data, .data, .data, .data, .sentinel, .sentinel, .pinned], laidTests := true, laidLooks := .later }
def RatioFieldUptoCardSaid : Prop := Claim7.holds Tryz.pinned (.plain (OpenSpec.upto ratioFieldSpec)) ratioFieldUptoCard

/-- THE SECOND FORM's CARD OF 'customhouselaw05.RatioOrder'. -/
def ratioOrderUptoCard : Claim7 := { stood := { row := ratioOrderUptoRow, standIns := [], harness := (true, "dd5cbdffe1057b383da1d28dbe6e347fd0bd84f6015df6a6002d0882873136f4"), looks := true }, kinds := [], alts := [], laidByText := true, laidKinds := [.data, .data, .data, .data, .sentinel, .sentinel, .pinned], laidTests := true, laidLooks := .later }
def RatioOrderUptoCardSaid : Prop := Claim7.holds Tryz.pinned (.plain (OpenSpec.upto ratioOrderSpec)) ratioOrderUptoCard

/-- THE SECOND FORM's CARD OF 'customhouselaw05.RatioValid'. -/
def ratioValidUptoCard : Claim7 := { stood := { row := ratioValidUptoRow, standIns := [], harness := (true, "dd5cbdffe1057b383da1d28dbe6e347fd0bd84f6015df6a6002d0882873136f4"), looks := true }, kinds := [], alts := [], laidByText := true, laidKinds := [.data, .data, .data, .data, .sentinel, .sentinel, .pinned], laidTests := true, laidLooks := .later }
def RatioValidUptoCardSaid : Prop := Claim7.holds Tryz.pinned (.plain (OpenSpec.upto ratioValidSpec)) ratioValidUptoCard

/-- THE SECOND FORM's CARD OF 'customhouselaw05.RatioTexts'. -/
def ratioTextsUptoCard : Claim7 := { stood := { row := ratioTextsUptoRow, standIns := [], harness := (true, "dd5cbdffe1057b383da1d28dbe6e347fd0bd84f6015df6a6002d0882873136f4"), looks := true }, kinds := [], alts := [], laidByText := true, laidKinds := [.data, .data, .data, .data, .sentinel, .sentinel, .pinned], laidTests := true, laidLooks := .later }
def RatioTextsUptoCardSaid : Prop := Claim7.holds Tryz.pinned (.plain (OpenSpec.upto ratioTextsSpec)) ratioTextsUptoCard

/-- THE SECOND FORM's CARD OF 'customhouselaw05.RatioTextsMatch'. -/
def ratioTextsMatchUptoCard : Claim7 := { stood := { row := ratioTextsMatchUptoRow, standIns := [], harness := (true, "dd5cbdffe1057b383da1d28dbe6e347fd0bd84f6015df6a6002d0882873136f4"), looks := true }, kinds := [], alts := [], laidByText := true, laidKinds := [.data, .data, .data, .data, .sentinel, .sentinel, .pinned], laidTests := true, laidLooks := .later }
def RatioTextsMatchUptoCardSaid : Prop := Claim7.holds Tryz.pinned (.plain (OpenSpec.upto ratioTextsMatchSpec)) ratioTextsMatchUptoCard
end Rows
end Go.Proofs.YtjahnkeafaebdaaGreatDoor
