/-
  DERIVED. GIVEN WITH THE SEED: THE CARDS: each row of YtmdbfbcolofelaaDoorRows.lean that lists a variable, with what it lists TIED to the program's text (the seventh form; the later family's looks); each row that meets fmt, with fmt's text TOLD by the authors' own Lean function (tested against real Go, not proved from fmt's source: count such statements apart). THE CARD IS WHAT COUNTS. Prove the row's statement (the work); the ties are given (YtmdbfbcolofelaaDoorTie.lean); close each card by the builder's one call (the guide's Derived/Test/ToyasCard.lean, 'card_holds'). Laid BY PROGRAM, IN A SANDBOX (cutbox-door.mjs). By AI agents, Wed Nov 11 2026. No macro, syntax, notation, axiom, sorry.
-/
import Derived.Test.YtmdbfbcolofelaaDoorRows
import GoSem.ClaimSeven
namespace Go.Proofs.YtmdbfbcolofelaaDoor
namespace Rows

/-- THE TIED CARD OF 'ramblelaw18.TravelWay'. -/
def travelWayCard : Claim7 := { stood := { row := travelWayRow, standIns := [], harness := (true, "5fc299433058fc409cf9076a52893577f4158fd3af031c43201efa88b1799fae"), looks := false }, kinds := [], alts := [], laidByText := true, laidKinds := [.data, .pinned], laidTests := true, laidLooks := .later }
def TravelWayCardSaid : Prop := Claim7.holds Tryd.pinned (.plain (OpenSpec.ofChange travelWaySpec)) travelWayCard

/-- THE TIED CARD OF 'ramblelaw18.TravelSame'. -/
def travelSameCard : Claim7 := { stood := { row := travelSameRow, standIns := [], harness := (true, "5fc299433058fc409cf9076a52893577f4158fd3af031c43201efa88b1799fae"), looks := false }, kinds := [], alts := [], laidByText := true, laidKinds := [.data, .pinned], laidTests := true, laidLooks := .later }
def TravelSameCardSaid : Prop := Claim7.holds Tryd.pinned (.plain (OpenSpec.ofChange travelSameSpec)) travelSameCard

/-- THE TIED CARD OF 'ramblelaw18.TravelStays'. -/
def travelStaysCard : Claim7 := { stood := { row := travelStaysRow, standIns := [], harness := (true, "5fc299433058fc409cf9076a52893577f4158fd3af031c43201efa88b1799fae"), looks := false }, kinds := [], alts := [], laidByText := true, laidKinds := [.data, .pinned], laidTests := true, laidLooks := .later }
def TravelStaysCardSaid : Prop := Claim7.holds Tryd.pinned (.plain (OpenSpec.ofChange travelStaysSpec)) travelStaysCard

/-- THE TIED CARD OF 'ramblelaw18.TravelGoes'. -/
def travelGoesCard : Claim7 := { stood := { row := travelGoesRow, standIns := [], harness := (true, "5fc299433058fc409cf9076a52893577f4158fd3af031c43201efa88b1799fae"), looks := false }, kinds := [], alts := [], laidByText := true, laidKinds := [.data, .pinned], laidTests := true, laidLooks := .later }
def TravelGoesCardSaid : Prop := Claim7.holds Tryd.pinned (.plain (OpenSpec.ofChange travelGoesSpec)) travelGoesCard

/-- THE SECOND FORM's CARD OF 'ramblelaw18.TravelWay'. -/
def travelWayUptoCard : Claim7 := { stood := { row := travelWayUptoRow, standIns := [], harness := (true, "5fc299433058fc409cf9076a52893577f4158fd3af031c43201efa88b1799fae"), looks := false }, kinds := [], alts := [], laidByText := true, laidKinds := [.data, .pinned], laidTests := true, laidLooks := .later }
def TravelWayUptoCardSaid : Prop := Claim7.holds Tryd.pinned (.plain (OpenSpec.upto travelWaySpec)) travelWayUptoCard

/-- THE SECOND FORM's CARD OF 'ramblelaw18.TravelSame'. -/
def travelSameUptoCard : Claim7 := { stood := { row := travelSameUptoRow, standIns := [], harness := (true, "5fc299433058fc409cf9076a52893577f4158fd3af031c43201efa88b1799fae"), looks := false }, kinds := [], alts := [], laidByText := true, laidKinds := [.data, .pinned], laidTests := true, laidLooks := .later }
def TravelSameUptoCardSaid : Prop := Claim7.holds Tryd.pinned (.plain (OpenSpec.upto travelSameSpec)) travelSameUptoCard

/-- THE SECOND FORM's CARD OF 'ramblelaw18.TravelStays'. -/
def travelStaysUptoCard : Claim7 := { stood := { row := travelStaysUptoRow, standIns := [], harness := (true, "5fc299433058fc409cf9076a52893577f4158fd3af031c43201efa88b1799fae"), looks := false }, kinds := [], alts := [], laidByText := true, laidKinds := [.data, .pinned], laidTests := true, laidLooks := .later }
def TravelStaysUptoCardSaid : Prop := Claim7.holds Tryd.pinned (.plain (OpenSpec.upto travelStaysSpec)) travelStaysUptoCard

/-- THE SECOND FORM's CARD OF 'ramblelaw18.TravelGoes'. -/
def travelGoesUptoCard : Claim7 := { stood := { row := travelGoesUptoRow, standIns := [], harness := (true, "5fc299433058fc409cf9076a52893577f4158fd3af031c43201efa88b1799fae"), looks := false }, kinds := [], alts := [], laidByText := true, laidKinds := [.data, .pinned], laidTests := true, laidLooks := .later }
def TravelGoesUptoCardSaid : Prop := Claim7.holds Tryd.pinned (.plain (OpenSpec.upto travelGoesSpec)) travelGoesUptoCard
end Rows
end Go.Proofs.YtmdbfbcolofelaaDoor
