/-
  DERIVED. GIVEN WITH THE SEED: THE CARDS: each row of YtcmlonloiamchaaDoorRows.lean that lists a variable, with what it lists TIED to the program's text (the seventh form; the later family's looks); each row that meets fmt, with fmt's text TOLD by the authors' own Lean function (tested against real Go, not proved from fmt's source: count such statements apart). THE CARD IS WHAT COUNTS. Prove the row's statement (the work); the ties are given (YtcmlonloiamchaaDoorTie.lean); close each card by the builder's one call (the guide's Derived/Test/ToyasCard.lean, 'card_holds'). Laid BY PROGRAM, IN A SANDBOX (cutbox-door.mjs). By AI agents, Wed Nov 11 2026. No macro, syntax, notation, axiom, sorry.
-/
import Derived.Test.YtcmlonloiamchaaDoorRows
import GoSem.ClaimSeven
namespace Go.Proofs.YtcmlonloiamchaaDoor
namespace Rows

/-- THE TIED CARD OF 'garmentlaw06.CodecDecodes'. -/
def codecDecodesCard : Claim7 := { stood := { row := codecDecodesRow, standIns := [], harness := (true, "d87cfcb4769c171eeecaa07d025aa2eac502caa1e987846c2bea676e0fdd77b0"), looks := true }, kinds := [], alts := [], laidByText := true, laidKinds := [.data, .data, .data], laidTests := true, laidLooks := .later }
def CodecDecodesCardSaid : Prop := Claim7.holds Tryd.pinned (.plain (OpenSpec.ofChange codecDecodesSpec)) codecDecodesCard

/-- THE TIED CARD OF 'garmentlaw06.CodecRoundTrip'. -/
def codecRoundTripCard : Claim7 := { stood := { row := codecRoundTripRow, standIns := [], harness := (true, "d87cfcb4769c171eeecaa07d025aa2eac502caa1e987846c2bea676e0fdd77b0"), looks := true }, kinds := [], alts := [], laidByText := true, laidKinds := [.data, .data, .data], laidTests := true, laidLooks := .later }
def CodecRoundTripCardSaid : Prop := Claim7.holds Tryd.pinned (.plain (OpenSpec.ofChange codecRoundTripSpec)) codecRoundTripCard

/-- THE TIED CARD OF 'garmentlaw06.CodecUnique'. -/
def codecUniqueCard : Claim7 := { stood := { row := codecUniqueRow, standIns := [], harness := (true, "d87cfcb4769c171eeecaa07d025aa2eac502caa1e987846c2bea676e0fdd77b0"), looks := true }, kinds := [], alts := [], laidByText := true, laidKinds := [.data, .data, .data], laidTests := true, laidLooks := .later }
def CodecUniqueCardSaid : Prop := Claim7.holds Tryd.pinned (.plain (OpenSpec.ofChange codecUniqueSpec)) codecUniqueCard

/-- THE TIED CARD OF 'garmentlaw06.CodecPrefixes'. -/
def codecPrefixesCard : Claim7 := { stood := { row := codecPrefixesRow, standIns := [], harness := (true, "d87cfcb4769c171eeecaa07d025aa2eac502caa1e987846c2bea676e0fdd77b0"), looks := true }, kinds := [], alts := [], laidByText := true, laidKinds := [.data, .data, .data], laidTests := true, laidLooks := .later }
def CodecPrefixesCardSaid : Prop := Claim7.holds Tryd.pinned (.plain (OpenSpec.ofChange codecPrefixesSpec)) codecPrefixesCard

/-- THE TIED CARD OF 'garmentlaw06.CodecApart'. -/
def codecApartCard : Claim7 := { stood := { row := codecApartRow, standIns := [], harness := (true, "d87cfcb4769c171eeecaa07d025aa2eac502caa1e987846c2bea676e0fdd77b0"), looks := true }, kinds := [], alts := [], laidByText := true, laidKinds := [.data, .data, .data], laidTests := true, laidLooks := .later }
def CodecApartCardSaid : Prop := Claim7.holds Tryd.pinned (.plain (OpenSpec.ofChange codecApartSpec)) codecApartCard

/-- THE TIED CARD OF 'garmentlaw06.CodecLists'. -/
def codecListsCard : Claim7 := { stood := { row := codecListsRow, standIns := [], harness := (true, "d87cfcb4769c171eeecaa07d025aa2eac502caa1e987846c2bea676e0fdd77b0"), looks := true }, kinds := [], alts := [], laidByText := true, laidKinds := [.data, .data, .data], laidTests := true, laidLooks := .later }
def CodecListsCardSaid : Prop := Claim7.holds Tryd.pinned (.plain (OpenSpec.ofChange codecListsSpec)) codecListsCard

/-- THE TIED CARD OF 'garmentlaw06.CodecPaths'. -/
def codecPathsCard : Claim7 := { stood := { row := codecPathsRow, standIns := [], harness := (true, "d87cfcb4769c171eeecaa07d025aa2eac502caa1e987846c2bea676e0fdd77b0"), looks := true }, kinds := [], alts := [], laidByText := true, laidKinds := [.data, .data, .data], laidTests := true, laidLooks := .later }
def CodecPathsCardSaid : Prop := Claim7.holds Tryd.pinned (.plain (OpenSpec.ofChange codecPathsSpec)) codecPathsCard

/-- THE SECOND FORM's CARD OF 'garmentlaw06.CodecDecodes'. -/
def codecDecodesUptoCard : Claim7 := { stood := { row := codecDecodesUptoRow, standIns := [], harness := (true, "d87cfcb4769c171eeecaa07d025aa2eac502caa1e987846c2bea676e0fdd77b0"), looks := true }, kinds := [], alts := [], laidByText := true, laidKinds := [.data, .data, .data], laidTests := true, laidLooks := .later }
def CodecDecodesUptoCardSaid : Prop := Claim7.holds Tryd.pinned (.plain (OpenSpec.upto codecDecodesSpec)) codecDecodesUptoCard

/-- THE SECOND FORM's CARD OF 'garmentlaw06.CodecRoundTrip'. -/
def codecRoundTripUptoCard : Claim7 := { stood := { row := codecRoundTripUptoRow, standIns := [], harness := (true, "d87cfcb4769c171eeecaa07d025aa2eac502caa1e987846c2bea676e0fdd77b0"), looks := true }, kinds := [], alts := [], laidByText := true, laidKinds := [.data, .data, .data], laidTests := true, laidLooks := .later }
def CodecRoundTripUptoCardSaid : Prop := Claim7.holds Tryd.pinned (.plain (OpenSpec.upto codecRoundTripSpec)) codecRoundTripUptoCard

/-- THE SECOND FORM's CARD OF 'garmentlaw06.CodecUnique'. -/
def codecUniqueUptoCard : Claim7 := { stood := { row := codecUniqueUptoRow, standIns := [], harness := (true, "d87cfcb4769c171eeecaa07d025aa2eac502caa1e987846c2bea676e0fdd77b0"), looks := true }, kinds := [], alts := [], laidByText := true, laidKinds := [.data, .data, .data], laidTests := true, laidLooks := .later }
def CodecUniqueUptoCardSaid : Prop := Claim7.holds Tryd.pinned (.plain (OpenSpec.upto codecUniqueSpec)) codecUniqueUptoCard

/-- THE SECOND FORM's CARD OF 'garmentlaw06.CodecPrefixes'. -/
def codecPrefixesUptoCard : Claim7 := { stood := { row := codecPrefixesUptoRow, standIns := [], harness := (true, "d87cfcb4769c171eeecaa07d025aa2eac502caa1e987846c2bea676e0fdd77b0"), looks := true }, kinds := [], alts := [], laidByText := true, laidKinds := [.data, .data, .data], laidTests := true, laidLooks := .later }
def CodecPrefixesUptoCardSaid : Prop := Claim7.holds Tryd.pinned (.plain (OpenSpec.upto codecPrefixesSpec)) codecPrefixesUptoCard

/-- THE SECOND FORM's CARD OF 'garmentlaw06.CodecApart'. -/
def codecApartUptoCard : Claim7 := { stood := { row := codecApartUptoRow, standIns := [], harness := (true, "d87cfcb4769c171eeecaa07d025aa2eac502caa1e987846c2bea676e0fdd77b0"), looks := true }, kinds := [], alts := [], laidByText := true, laidKinds := [.data, .data, .data], laidTests := true, laidLooks := .later }
def CodecApartUptoCardSaid : Prop := Claim7.holds Tryd.pinned (.plain (OpenSpec.upto codecApartSpec)) codecApartUptoCard

/-- THE SECOND FORM's CARD OF 'garmentlaw06.CodecLists'. -/
def codecListsUptoCard : Claim7 := { stood := { row := codecListsUptoRow, standIns := [], harness := (true, "d87cfcb4769c171eeecaa07d025aa2eac502caa1e987846c2bea676e0fdd77b0"), looks := true }, kinds := [], alts := [], laidByText := true, laidKinds := [.data, .data, .data], laidTests := true, laidLooks := .later }
def CodecListsUptoCardSaid : Prop := Claim7.holds Tryd.pinned (.plain (OpenSpec.upto codecListsSpec)) codecListsUptoCard

/-- THE SECOND FORM's CARD OF 'garmentlaw06.CodecPaths'. -/
def codecPathsUptoCard : Claim7 := { stood := { row := codecPathsUptoRow, standIns := [], harness := (true, "d87cfcb4769c171eeecaa07d025aa2eac502caa1e987846c2bea676e0fdd77b0"), looks := true }, kinds := [], alts := [], laidByText := true, laidKinds := [.data, .data, .data], laidTests := true, laidLooks := .later }
def CodecPathsUptoCardSaid : Prop := Claim7.holds Tryd.pinned (.plain (OpenSpec.upto codecPathsSpec)) codecPathsUptoCard
end Rows
end Go.Proofs.YtcmlonloiamchaaDoor
