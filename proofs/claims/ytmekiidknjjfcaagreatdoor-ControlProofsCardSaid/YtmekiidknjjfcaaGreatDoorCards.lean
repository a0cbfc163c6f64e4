/-
  DERIVED. GIVEN WITH THE SEED: THE CARDS: each row of YtmekiidknjjfcaaGreatDoorRows.lean that lists a variable, with what it lists TIED to the program's text (the seventh form; the later family's looks); each row that meets fmt, with fmt's text TOLD by the authors' own Lean function (tested against real Go, not proved from fmt's source: count such statements apart). THE CARD IS WHAT COUNTS. Prove the row's statement (the work); the ties are given (YtmekiidknjjfcaaGreatDoorTie.lean); close each card by the builder's one call (the guide's Derived/Test/ToyasCard.lean, 'card_holds'). Laid BY PROGRAM, IN A SANDBOX (cutbox-door.mjs). By AI agents, Wed Nov 11 2026. No macro, syntax, notation, axiom, sorry.
-/
import Derived.Test.YtmekiidknjjfcaaGreatDoorRows
import GoSem.ClaimSeven
namespace Go.Proofs.YtmekiidknjjfcaaGreatDoor
namespace Rows

/-- THE TIED CARD OF 'customhouselaw22.ControlMatchesReference'. -/
def controlMatchesReferenceCard : Claim7 := { stood := { row := controlMatchesReferenceRow, standIns := [], harness := (true, "bb9b773054d9ac654b5eb8901a14f7ad4cb8815556197fb0ae91bd535224e4e9"), looks := true }, kinds := [], alts := [], laidByText := true, laidKinds := [.data, .data, .data, .data, .sentinel, .sentinel, .pinned], laidTests := true, laidLooks := .later }
def ControlMatchesReferenceCardSaid : Prop := Claim7.holds Tryz.pinned (.plain (OpenSpec.ofChange controlMatchesReferenceSpec)) controlMatchesReferenceCard

/-- THE TIED CARD OF 'customhouselaw22.ControlRounds'. -/
def controlRoundsCard : Claim7 := { stood := { row := controlRoundsRow, standIns := [], harness := (true, "bb9b773054d9ac654b5eb8901a14f7ad4cb8815556197fb0ae91bd535224e4e9"), looks := true }, kinds := [], alts := [], laidByText := true, laidKinds := [.data, .data, .data, .data, .sentinel, .sentinel, .pinned], laidTests := true, laidLooks := .later }
def ControlRoundsCardSaid : Prop := Claim7.holds Tryz.pinned (.plain (OpenSpec.ofChange controlRoundsSpec)) controlRoundsCard

/-- THE TIED CARD OF 'customhouselaw22.ControlLeast'. -/
def controlLeastCard : Claim7 := { stood := { row := controlLeastRow, standIns := [], harness := (true, "bb9b773054d9ac654b5eb8901a14f7ad4cb8815556197fb0ae91bd535224e4e9"), looks := true }, kinds := [], alts := [], laidByText := true, laidKinds := [.data, .data, .data, .data, .sentinel, .sentinel, .pinned], laidTests := true, laidLooks := .later }
def ControlLeastCardSaid : Prop := Claim7.holds Tryz.pinned (.plain (OpenSpec.ofChange controlLeastSpec)) controlLeastCard

/-- THE TIED CARD OF 'customhouselaw22.ControlProofs'. -/
def controlProofsCard : Claim7 := { stood := { row := controlProofsRow, standIns := [], harness := (true, "bb9b773054d9ac654b5eb8901a14f7ad4cb8815556197fb0ae91bd535224e4e9"), looks := true }, kinds := [], alts := [], laidByText := true, laidKinds := [.data, .data, .data, .data, .sentinel, .sentinel, .pinned], laidTests := true, laidLooks := .later }
def ControlProofsCardSaid : Prop := Claim7.holds Tryz.pinned (.plain (OpenSpec.ofChange controlProofsSpec)) controlProofsCard

/-- THE TIED CARD OF 'customhouselaw22.ControlSound'. -/
def controlSoundCard : Claim7 := { stood := { row := controlSoundRow, standIns := [], harness := (true, "bb9b773054d9ac654b5eb8901a14f7ad4cb8815556197fb0ae91bd535224e4e9"), looks := true }, kinds := [], alts := [], laidByText := true, laidKinds := [.data, .data, .data, .data, .sentinel, .sentinel, .pinned], laidTests := true, laidLooks := .later }
def ControlSoundCardSaid : Prop := Claim7.holds Tryz.pinned (.plain (OpenSpec.ofChange controlSoundSpec)) controlSoundCard

/-- THE TIED CARD OF 'customhouselaw22.ControlMore'. -/
def controlMoreCard : Claim7 := { stood := { row := controlMoreRow, standIns := [], harness := (true, "bb9b773054d9ac654b5eb8901a14f7ad4cb8815556197fb0ae91bd535224e4e9"), looks := true }, kinds := [], alts := [], laidByText := true, laidKinds := [.data, .data, .data, .data, .sentinel, .sentinel, .pinned], laidTests := true, laidLooks := .later }
def ControlMoreCardSaid : Prop := Claim7.holds Tryz.pinned (.plain (OpenSpec.ofChange controlMoreSpec)) controlMoreCard

/-- THE TIED CARD OF 'customhouselaw22.ControlOthers'. -/
def controlOthersCard : Claim7 := { stood := { row := controlOthersRow, standIns := [], harness := (true, "bb9b773054d9ac654b5eb8901a14f7ad4cb8815556197fb0ae91bd535224e4e9"), looks := true }, kinds := [], alts := [], laidByText := true, laidKinds := [.data, .data, .data, .data, .sentinel, .sentinel, .pinned], laidTests := true, laidLooks := .later }
def ControlOthersCardSaid : Prop := Claim7.holds Tryz.pinned (.plain (OpenSpec.ofChange controlOthersSpec)) controlOthersCard

/-- THE SECOND FORM's CARD OF 'customhouselaw22.ControlMatchesReference'. -/
def controlMatchesReferenceUptoCard : Claim7 := { stood := { row := controlMatchesReferenceUptoRow, standIns := [], harness := (true, "bb9b773054d9ac654b5eb8901a14f7ad4cb8815556197fb0ae91bd535224e4e9"), looks := true }, kinds := [], alts := [], laidByText := true, laidKinds := [.data, .data, .data, .data, .sentinel, .sentinel, .pinned], laidTests := true, laidLooks := .later }
def ControlMatchesReferenceUptoCardSaid : Prop := Claim7.holds Tryz.pinned (.plain (OpenSpec.upto controlMatchesReferenceSpec)) controlMatchesReferenceUptoCard

/-- THE SECOND FORM's CARD OF 'customhouselaw22.ControlRounds'. -/
def controlRoundsUptoCard : Claim7 := { stood := { row := controlRoundsUptoRow, standIns := [], harness := (true, "bb9b773054d9ac654b5eb8901a14f7ad4cb8815556197fb0ae91bd535224e4e9"), looks := true }, kinds := [], alts := [], laidByText := true, laidKinds := [.data, .data, .data, .data, .sentinel, .sentinel, .pinned], laidTests := true, laidLooks := .later }
def ControlRoundsUptoCardSaid : Prop := Claim7.holds Tryz.pinned (.plain (OpenSpec.upto controlRoundsSpec)) controlRoundsUptoCard

/-- THE SECOND FORM's CARD OF 'customhouselaw22.ControlLeast'. -/
def controlLeastUptoCard : Claim7 := { stood := { row := controlLeastUptoRow, standIns := [], harness := (true, "bb9b773054d9ac654b5eb8901a14f7ad4cb8815556197fb0ae91bd535224e4e9"), looks := true }, kinds := [], alts := [], laidByText := true, laidKinds := [.data, .data, .data, .data, .sentinel, .sentinel, .pinned], laidTests := true, laidLooks := .later }
def ControlLeastUptoCardSaid : Prop := Claim7.holds Tryz.pinned (.plain (OpenSpec.upto controlLeastSpec)) controlLeastUptoCard

/-- THE SECOND FORM's CARD OF 'customhouselaw22.ControlProofs'. -/
def controlProofsUptoCard : Claim7 := { stood := { row := controlProofsUptoRow, standIns := [], harness := (true, "bb9b773054d9ac654b5eb8901a14f7ad4cb8815556197fb0ae91bd535224e4e9"), looks := true }, kinds := [], alts := [], laidByText := true, laidKinds := [.data, .data, .data, .data, .sentinel, .sentinel, .pinned], laidTests := true, laidLooks := .later }
def ControlProofsUptoCardSaid : Prop := Claim7.holds Tryz.pinned (.plain (OpenSpec.upto controlProofsSpec)) controlProofsUptoCard

/-- THE SECOND FORM's CARD OF 'customhouselaw22.ControlSound'. -/
def controlSoundUptoCard : Claim7 := { stood := { row := controlSoundUptoRow, standIns := [], harness := (true, "bb9b773054d9ac654b5eb8901a14f7ad4cb8815556197fb0ae91bd535224e4e9"), looks := true }, kinds := [], alts := [], laidByText := true, laidKinds := [.data, .data, .data, .data, .sentinel, .sentinel, .pinned], laidTests := true, laidLooks := .later }
def ControlSoundUptoCardSaid : Prop := Claim7.holds Tryz.pinned (.plain (OpenSpec.upto controlSoundSpec)) controlSoundUptoCard

/-- THE SECOND FORM's CARD OF 'customhouselaw22.ControlMore'. -/
def controlMoreUptoCard : Claim7 := { stood := { row := controlMoreUptoRow, standIns := [], harness := (true, "bb9b773054d9ac654b5eb8901a14f7ad4cb8815556197fb0ae91bd535224e4e9"), looks := true }, kinds := [], alts := [], laidByText := true, laidKinds := [.data, .data, .data, .data, .sentinel, .sentinel, .pinned], laidTests := true, laidLooks := .later }
def ControlMoreUptoCardSaid : Prop := Claim7.holds Tryz.pinned (.plain (OpenSpec.upto controlMoreSpec)) controlMoreUptoCard

/-- THE SECOND FORM's CARD OF 'customhouselaw22.ControlOthers'. -/
def controlOthersUptoCard : Claim7 := { stood := { row := controlOthersUptoRow, standIns := [], harness := (true, "bb9b773054d9ac654b5eb8901a14f7ad4cb8815556197fb0ae91bd535224e4e9"), looks := true }, kinds := [], alts := [], laidByText := true, laidKinds := [.data, .data, .data, .data, .sentinel, .sentinel, .pinned], laidTests := true, laidLooks := .later }
def ControlOthersUptoCardSaid : Prop := Claim7.holds Tryz.pinned (.plain (OpenSpec.upto controlOthersSpec)) controlOthersUptoCard
end Rows
end Go.Proofs.YtmekiidknjjfcaaGreatDoor
