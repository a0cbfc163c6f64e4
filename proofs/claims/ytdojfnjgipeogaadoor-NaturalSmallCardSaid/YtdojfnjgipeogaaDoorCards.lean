/-
  DERIVED. GIVEN WITH THE SEED: THE CARDS: each row of YtdojfnjgipeogaaDoorRows.lean that lists a variable, with what it lists TIED to the program's text (the seventh form; the later family's looks); each row that meets fmt, with fmt's text TOLD by the authors' own Lean function (tested against real Go, not proved from fmt's source: count such statements apart). THE CARD IS WHAT COUNTS. Prove the row's statement (the work); the ties are given (YtdojfnjgipeogaaDoorTie.lean); close each card by the builder's one call (the guide's Derived/Test/ToyasCard.lean, 'card_holds'). Laid BY PROGRAM, IN A SANDBOX (cutbox-door.mjs). By AI agents, Wed Nov 11 2026. No macro, syntax, notation, axiom, sorry.
-/
import Derived.Test.YtdojfnjgipeogaaDoorRows
import GoSem.ClaimSeven
namespace Go.Proofs.YtdojfnjgipeogaaDoor
namespace Rows

/-- THE TIED CARD OF 'customhouselaw04.NaturalDigits'. -/
def naturalDigitsCard : Claim7 := { stood := { row := naturalDigitsRow, standIns := [], harness := (true, "add6768cb054224ac4e607dc4b82dd9f0be29c2ca5a64ba460f637b252886af9"), looks := true }, kinds := [], alts := [], laidByText := true, laidKinds := [.data, .data, .data, .data, .sentinel, .sentinel, .pinned], laidTests := true, laidLooks := .later }
def NaturalDigitsCardSaid : Prop := Claim7.holds Tryd.pinned (.plain (OpenSpec.ofChange naturalDigitsSpec)) naturalDigitsCard

/-- THE TIED CARD OF 'customhouselaw04.NaturalDivisors'. -/
def naturalDivisorsCard : Claim7 := { stood := { row := naturalDivisorsRow, standIns := [], harness := (true, "add6768cb054224ac4e607dc4b82dd9f0be29c2ca5a64ba460f637b252886af9"), looks := true }, kinds := [], alts := [], laidByText := true, laidKinds := [.data, .data, .data, .data, .sentinel, .sentinel, .pinned], laidTests := true, laidLooks := .later }
def NaturalDivisorsCardSaid : Prop := Claim7.holds Tryd.pinned (.plain (OpenSpec.ofChange naturalDivisorsSpec)) naturalDivisorsCard

/-- THE TIED CARD OF 'customhouselaw04.NaturalRing'. -/
def naturalRingCard : Claim7 := { stood := { row := naturalRingRow, standIns := [], harness := (true, "add6768cb054224ac4e607dc4b82dd9f0be29c2ca5a64ba460f637b252886af9"), looks := true }, kinds := [], alts := [], laidByText := true, laidKinds := [.data, .data, .data, .data, .sentinel, .sentinel, .pinned], laidTests := true, laidLooks := .later }
def NaturalRingCardSaid : Prop := Claim7.holds Tryd.pinned (.plain (OpenSpec.ofChange naturalRingSpec)) naturalRingCard

/-- THE TIED CARD OF 'customhouselaw04.NaturalOrder'. -/
def naturalOrderCard : Claim7 := { stood := { row := naturalOrderRow, standIns := [], harness := (true, "add6768cb054224ac4e607dc4b82dd9f0be29c2ca5a64ba460f637b252886af9"), looks := true }, kinds := [], alts := [], laidByText := true, laidKinds := [.data, .data, .data, .data, .sentinel, .sentinel, .pinned], laidTests := true, laidLooks := .later }
def NaturalOrderCardSaid : Prop := Claim7.holds Tryd.pinned (.plain (OpenSpec.ofChange naturalOrderSpec)) naturalOrderCard

/-- THE TIED CARD OF 'customhouselaw04.NaturalDifferences'. -/
def naturalDifferencesCard : Claim7 := { stood := { row := naturalDifferencesRow, standIns := [], harness := (true, "add6768cb054224ac4e607dc4b82dd9f0be29c2ca5a64ba460f637b252886af9"), looks := true }, kinds := [], alts := [], laidByText := true, laidKinds := [.data, .data, .data, .data, .sentinel, .sentinel, .pinned], laidTests := true, laidLooks := .later }
def NaturalDifferencesCardSaid : Prop := Claim7.holds Tryd.pinned (.plain (OpenSpec.ofChange naturalDifferencesSpec)) naturalDifferencesCard

/-- THE TIED CARD OF 'customhouselaw04.NaturalQuotients'. -/
def naturalQuotientsCard : Claim7 := { stood := { row := naturalQuotientsRow, standIns := [], harness := (true, "add6768cb054224ac4e607dc4b82dd9f0be29c2ca5a64ba460f637b252886af9"), looks := true }, kinds := [], alts := [], laidByText := true, laidKinds := [.data, .data, .data, .data, .sentinel, .sentinel, .pinned], laidTests := true, laidLooks := .later }
def NaturalQuotientsCardSaid : Prop := Claim7.holds Tryd.pinned (.plain (OpenSpec.ofChange naturalQuotientsSpec)) naturalQuotientsCard

/-- THE TIED CARD OF 'customhouselaw04.NaturalLimits'. -/
def naturalLimitsCard : Claim7 := { stood := { row := naturalLimitsRow, standIns := [], harness := (true, "add6768cb054224ac4e607dc4b82dd9f0be29c2ca5a64ba460f637b252886af9"), looks := true }, kinds := [], alts := [], laidByText := true, laidKinds := [.data, .data, .data, .data, .sentinel, .sentinel, .pinned], laidTests := true, laidLooks := .later }
def NaturalLimitsCardSaid : Prop := Claim7.holds Tryd.pinned (.plain (OpenSpec.ofChange naturalLimitsSpec)) naturalLimitsCard

/-- THE TIED CARD OF 'customhouselaw04.NaturalSmall'. -/
def naturalSmallCard : Claim7 := { stood := { row := naturalSmallRow, standIns := [], harness := (true, "add6768cb054224ac4e607dc4b82dd9f0be29c2ca5a64ba460f637b252886af9"), looks := true }, kinds := [], alts := [], laidByText := true, laidKinds := [.data, .data, .data, .data, .sentinel, .sentinel, .pinned], laidTests := true, laidLooks := .later }
def NaturalSmallCardSaid : Prop := Claim7.holds Tryd.pinned (.plain (OpenSpec.ofChange naturalSmallSpec)) naturalSmallCard

/-- THE SECOND FORM's CARD OF 'customhouselaw04.NaturalDigits'. -/
def naturalDigitsUptoCard : Claim7 := { stood := { row := naturalDigitsUptoRow, standIns := [], harness := (true, "add6768cb054224ac4e607dc4b82dd9f0be29c2ca5a64ba460f637b252886af9"), looks := true }, kinds := [], alts := [], laidByText := true, laidKinds := [.data, .data, .data, .data, .sentinel, .sentinel, .pinned], laidTests := true, laidLooks := .later }
def NaturalDigitsUptoCardSaid : Prop := Claim7.holds Tryd.pinned (.plain (OpenSpec.upto naturalDigitsSpec)) naturalDigitsUptoCard

/-- THE SECOND FORM's CARD OF 'customhouselaw04.NaturalDivisors'. -/
def naturalDivisorsUptoCard : Claim7 := { stood := { row := naturalDivisorsUptoRow, standIns := [], harness := (true, "add6768cb054224ac4e607dc4b82dd9f0be29c2ca5a64ba460f637b252886af9"), looks := true }, kinds := [], alts := [], laidByText := true, laidKinds := [.data, .data, .data, .data, .sentinel, .sentinel, .pinned], laidTests := true, laidLooks := .later }
def NaturalDivisorsUptoCardSaid : Prop := Claim7.holds Tryd.pinned (.plain (OpenSpec.upto naturalDivisorsSpec)) naturalDivisorsUptoCard

/-- THE SECOND FORM's CARD OF 'customhouselaw04.NaturalRing'. -/
def naturalRingUptoCard : Claim7 := { stood := { row := naturalRingUptoRow, standIns := [], harness := (true, "add6768cb054224ac4e607dc4b82dd9f0be29c2ca5a64ba460f637b252886af9"), looks := true }, kinds := [], alts := [], laidByText := true, laidKinds := [.data, .data, .data, .data, .sentinel, .sentinel, .pinned], laidTests := true, laidLooks := .later }
def NaturalRingUptoCardSaid : Prop := Claim7.holds Tryd.pinned (.plain (OpenSpec.upto naturalRingSpec)) naturalRingUptoCard

/-- THE SECOND FORM's CARD OF 'customhouselaw04.NaturalOrder'. -/
def naturalOrderUptoCard : Claim7 := { stood := { row := naturalOrderUptoRow, standIns := [], harness := (true, "add6768cb054224ac4e607dc4b82dd9f0be29c2ca5a64ba460f637b252886af9"), looks := true }, kinds := [], alts := [], laidByText := true, laidKinds := [.data, .data, .data, .data, .sentinel, .sentinel, .pinned], laidTests := true, laidLooks := .later }
def NaturalOrderUptoCardSaid : Prop := Claim7.holds Tryd.pinned (.plain (OpenSpec.upto naturalOrderSpec)) naturalOrderUptoCard

/-- THE SECOND FORM's CARD OF 'customhouselaw04.NaturalDifferences'. -/
def naturalDifferencesUptoCard : Claim7 := { stood := { row := naturalDifferencesUptoRow, standIns := [], harness := (true, "add6768cb054224ac4e607dc4b82dd9f0be29c2ca5a64ba460f637b252886af9"), looks := true }, kinds := [], alts := [], laidByText := true, laidKinds := [.data, .data, .data, .data, .sentinel, .sentinel, .pinned], laidTests := true, laidLooks := .later }
def NaturalDifferencesUptoCardSaid : Prop := Claim7.holds Tryd.pinned (.plain (OpenSpec.upto naturalDifferencesSpec)) naturalDifferencesUptoCard

/-- THE SECOND FORM's CARD OF 'customhouselaw04.NaturalQuotients'. -/
def naturalQuotientsUptoCard : Claim7 := { stood := { row := naturalQuotientsUptoRow, standIns := [], harness := (true, "add6768cb054224ac4e607dc4b82dd9f0be29c2ca5a64ba460f637b252886af9"), looks := true }, kinds := [], alts := [], laidByText := true, laidKinds := [.data, .data, .data, .data, .sentinel, .sentinel, .pinned], laidTests := true, laidLooks := .later }
def NaturalQuotientsUptoCardSaid : Prop := Claim7.holds Tryd.pinned (.plain (OpenSpec.upto naturalQuotientsSpec)) naturalQuotientsUptoCard

/-- THE SECOND FORM's CARD OF 'customhouselaw04.NaturalLimits'. -/
def naturalLimitsUptoCard : Claim7 := { stood := { row := naturalLimitsUptoRow, standIns := [], harness := (true, "add6768cb054224ac4e607dc4b82dd9f0be29c2ca5a64ba460f637b252886af9"), looks := true }, kinds := [], alts := [], laidByText := true, laidKinds := [.data, .data, .data, .data, .sentinel, .sentinel, .pinned], laidTests := true, laidLooks := .later }
def NaturalLimitsUptoCardSaid : Prop := Claim7.holds Tryd.pinned (.plain (OpenSpec.upto naturalLimitsSpec)) naturalLimitsUptoCard

/-- THE SECOND FORM's CARD OF 'customhouselaw04.NaturalSmall'. -/
def naturalSmallUptoCard : Claim7 := { stood := { row := naturalSmallUptoRow, standIns := [], harness := (true, "add6768cb054224ac4e607dc4b82dd9f0be29c2ca5a64ba460f637b252886af9"), looks := true }, kinds := [], alts := [], laidByText := true, laidKinds := [.data, .data, .data, .data, .sentinel, .sentinel, .pinned], laidTests := true, laidLooks := .later }
def NaturalSmallUptoCardSaid : Prop := Claim7.holds Tryd.pinned (.plain (OpenSpec.upto naturalSmallSpec)) naturalSmallUptoCard
end Rows
end Go.Proofs.YtdojfnjgipeogaaDoor
