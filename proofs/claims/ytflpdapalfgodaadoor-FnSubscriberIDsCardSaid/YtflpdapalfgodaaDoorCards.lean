/-
  DERIVED. GIVEN WITH THE SEED: THE CARDS: each row of YtflpdapalfgodaaDoorRows.lean that lists a variable, with what it lists TIED to the program's text (the seventh form; the later family's looks); each row that meets fmt, with fmt's text TOLD by the authors' own Lean function (tested against real Go, not proved from fmt's source: count such statements apart). THE CARD IS WHAT COUNTS. Prove the row's statement (the work); the ties are given (YtflpdapalfgodaaDoorTie.lean); close each card by the builder's one call (the guide's Derived/Test/ToyasCard.lean, 'card_holds'). Laid BY PROGRAM, IN A SANDBOX (cutbox-door.mjs). By AI agents, Wed Nov 11 2026. No macro, syntax, notation, axiom, sorry.
-/
import Derived.Test.YtflpdapalfgodaaDoorRows
import GoSem.ClaimSeven
namespace Go.Proofs.YtflpdapalfgodaaDoor
namespace Rows

/-- THE TIED CARD OF 'laws.FnIntegers'. -/
def fnIntegersCard : Claim7 := { stood := { row := fnIntegersRow, standIns := [], harness := (true, "d458305f30b60e99e249d85a9a18821c694750f231348a02aadfc51c5d96e414"), looks := false }, kinds := [], alts := [], laidByText := true, laidKinds := [.data, .data, .data], laidTests := true, laidLooks := .later }
def FnIntegersCardSaid : Prop := Claim7.holds Tryd.pinned (.plain (OpenSpec.ofChange fnIntegersSpec)) fnIntegersCard

/-- THE TIED CARD OF 'laws.FnSubscriberIDs'. -/
def fnSubscriberIDsCard : Claim7 := { stood := { row := fnSubscriberIDsRow, standIns := [], harness := (true, "d458305f30b60e99e249d85a9a18821c694750f231348a02aadfc51c5d96e414"), looks := false }, kinds := [], alts := [], laidByText := true, laidKinds := [.data, .data, .data], laidTests := true, laidLooks := .later }
def FnSubscriberIDsCardSaid : Prop := Claim7.holds Tryd.pinned (.plain (OpenSpec.ofChange fnSubscriberIDsSpec)) fnSubscriberIDsCard

/-- THE TIED CARD OF 'laws.FnExactFormatInt'. -/
def fnExactFormatIntCard : Claim7 := { stood := { row := fnExactFormatIntRow, standIns := [], harness := (true, "d458305f30b60e99e249d85a9a18821c694750f231348a02aadfc51c5d96e414"), looks := false }, kinds := [], alts := [], laidByText := true, laidKinds := [.data, .data, .data], laidTests := true, laidLooks := .later }
def FnExactFormatIntCardSaid : Prop := Claim7.holds Tryd.pinned (.plain (OpenSpec.ofChange fnExactFormatIntSpec)) fnExactFormatIntCard

/-- THE TIED CARD OF 'laws.FnExactFormatTempID'. -/
def fnExactFormatTempIDCard : Claim7 := { stood := { row := fnExactFormatTempIDRow, standIns := [], harness := (true, "d458305f30b60e99e249d85a9a18821c694750f231348a02aadfc51c5d96e414"), looks := false }, kinds := [], alts := [], laidByText := true, laidKinds := [.data, .data, .data], laidTests := true, laidLooks := .later }
def FnExactFormatTempIDCardSaid : Prop := Claim7.holds Tryd.pinned (.plain (OpenSpec.ofChange fnExactFormatTempIDSpec)) fnExactFormatTempIDCard

/-- THE TIED CARD OF 'laws.FnExactFormatSubscriberID'. -/
def fnExactFormatSubscriberIDCard : Claim7 := { stood := { row := fnExactFormatSubscriberIDRow, standIns := [], harness := (true, "d458305f30b60e99e249d85a9a18821c694750f231348a02aadfc51c5d96e414"), looks := false }, kinds := [], alts := [], laidByText := true, laidKinds := [.data, .data, .data], laidTests := true, laidLooks := .later }
def FnExactFormatSubscriberIDCardSaid : Prop := Claim7.holds Tryd.pinned (.plain (OpenSpec.ofChange fnExactFormatSubscriberIDSpec)) fnExactFormatSubscriberIDCard

/-- THE SECOND FORM's CARD OF 'laws.FnIntegers'. -/
def fnIntegersUptoCard : Claim7 := { stood := { row := fnIntegersUptoRow, standIns := [], harness := (true, "d458305f30b60e99e249d85a9a18821c694750f231348a02aadfc51c5d96e414"), looks := false }, kinds := [], alts := [], laidByText := true, laidKinds := [.data, .data, .data], laidTests := true, laidLooks := .later }
def FnIntegersUptoCardSaid : Prop := Claim7.holds Tryd.pinned (.plain (OpenSpec.upto fnIntegersSpec)) fnIntegersUptoCard

/-- THE SECOND FORM's CARD OF 'laws.FnSubscriberIDs'. -/
def fnSubscriberIDsUptoCard : Claim7 := { stood := { row := fnSubscriberIDsUptoRow, standIns := [], harness := (true, "d458305f30b60e99e249d85a9a18821c694750f231348a02aadfc51c5d96e414"), looks := false }, kinds := [], alts := [], laidByText := true, laidKinds := [.data, .data, .data], laidTests := true, laidLooks := .later }
def FnSubscriberIDsUptoCardSaid : Prop := Claim7.holds Tryd.pinned (.plain (OpenSpec.upto fnSubscriberIDsSpec)) fnSubscriberIDsUptoCard

/-- THE SECOND FORM's CARD OF 'laws.FnExactFormatInt'. -/
def fnExactFormatIntUptoCard : Claim7 := { stood := { row := fnExactFormatIntUptoRow, standIns := [], harness := (true, "d458305f30b60e99e249d85a9a18821c694750f231348a02aadfc51c5d96e414"), looks := false }, kinds := [], alts := [], laidByText := true, laidKinds := [.data, .data, .data], laidTests := true, laidLooks := .later }
def FnExactFormatIntUptoCardSaid : Prop := Claim7.holds Tryd.pinned (.plain (OpenSpec.upto fnExactFormatIntSpec)) fnExactFormatIntUptoCard

/-- THE SECOND FORM's CARD OF 'laws.FnExactFormatTempID'. -/
def fnExactFormatTempIDUptoCard : Claim7 := { stood := { row := fnExactFormatTempIDUptoRow, standIns := [], harness := (true, "d458305f30b60e99e249d85a9a18821c694750f231348a02aadfc51c5d96e414"), looks := false }, kinds := [], alts := [], laidByText := true, laidKinds := [.data, .data, .data], laidTests := true, laidLooks := .later }
def FnExactFormatTempIDUptoCardSaid : Prop := Claim7.holds Tryd.pinned (.plain (OpenSpec.upto fnExactFormatTempIDSpec)) fnExactFormatTempIDUptoCard

/-- THE SECOND FORM's CARD OF 'laws.FnExactFormatSubscriberID'. -/
def fnExactFormatSubscriberIDUptoCard : Claim7 := { stood := { row := fnExactFormatSubscriberIDUptoRow, standIns := [], harness := (true, "d458305f30b60e99e249d85a9a18821c694750f231348a02aadfc51c5d96e414"), looks := false }, kinds := [], alts := [], laidByText := true, laidKinds := [.data, .data, .data], laidTests := true, laidLooks := .later }
def FnExactFormatSubscriberIDUptoCardSaid : Prop := Claim7.holds Tryd.pinned (.plain (OpenSpec.upto fnExactFormatSubscriberIDSpec)) fnExactFormatSubscriberIDUptoCard
end Rows
end Go.Proofs.YtflpdapalfgodaaDoor
