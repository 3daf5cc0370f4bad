/-
  DERIVED. GIVEN WITH THE SEED: THE CARDS: each row of YtgeaibhgaihobaaGreatDoorRows.lean that lists a variable, with what it lists TIED to the program's text (the seventh form; the later family's looks); each row that meets fmt, with fmt's text TOLD by the authors' own Lean function (tested against real Go, not proved from fmt's source: count such statements apart). THE CARD IS WHAT COUNTS. Prove the row's statement (the work); the ties are given (YtgeaibhgaihobaaGreatDoorTie.lean); close each card by the builder's one call (the guide's Derived/Test/ToyasCard.lean, 'card_holds'). Laid BY PROGRAM, IN A SANDBOX (cutbox-door.mjs). By AI agents, Wed Nov 11 2026. No macro, syntax, notation, axiom, sorry.
-/
import Derived.Test.YtgeaibhgaihobaaGreatDoorRows
import GoSem.ClaimSeven
namespace Go.Proofs.YtgeaibhgaihobaaGreatDoor
namespace Rows

/-- THE TIED CARD OF 'ramblelaw10.GraphStays'. -/
def graphStaysCard : Claim7 := { stood := { row := graphStaysRow, standIns := [], harness := (true, "c0e02ef901ee5181f503d41e6993b76e945169faec21ce5517fd2dff164ab3aa"), looks := false }, kinds := [], alts := [], laidByText := true, laidKinds := [.data, .pinned], laidTests := true, laidLooks := .later }
def GraphStaysCardSaid : Prop := Claim7.holds Tryz.pinned (.plain (OpenSpec.ofChange graphStaysSpec)) graphStaysCard

/-- THE TIED CARD OF 'ramblelaw10.GraphOwn'. -/
def graphOwnCard : Claim7 := { stood := { row := graphOwnRow, standIns := [], harness := (true, "c0e02ef901ee5181f503d41e6993b76e945169faec21ce5517fd2dff164ab3aa"), looks := false }, kinds := [], alts := [], laidByText := true, laidKinds := [.data, .pinned], laidTests := true, laidLooks := .later }
def GraphOwnCardSaid : Prop := Claim7.holds Tryz.pinned (.plain (OpenSpec.ofChange graphOwnSpec)) graphOwnCard

/-- THE SECOND FORM's CARD OF 'ramblelaw10.GraphStays'. -/
def graphStaysUptoCard : Claim7 := { stood := { row := graphStaysUptoRow, standIns := [], harness := (true, "c0e02ef901ee5181f503d41e6993b76e945169faec21ce5517fd2dff164ab3aa"), looks := false }, kinds := [], alts := [], laidByText := true, laidKinds := [.data, .pinned], laidTests := true, laidLooks := .later }
def GraphStaysUptoCardSaid : Prop := Claim7.holds Tryz.pinned (.plain (OpenSpec.upto graphStaysSpec)) graphStaysUptoCard

/-- THE SECOND FORM's CARD OF 'ramblelaw10.GraphOwn'. -/
def graphOwnUptoCard : Claim7 := { stood := { row := graphOwnUptoRow, standIns := [], harness := (true, "c0e02ef901ee5181f503d41e6993b76e945169faec21ce5517fd2dff164ab3aa"), looks := false }, kinds := [], alts := [], laidByText := true, laidKinds := [.data, .pinned], laidTests := true, laidLooks := .later }
def GraphOwnUptoCardSaid : Prop := Claim7.holds Tryz.pinned (.plain (OpenSpec.upto graphOwnSpec)) graphOwnUptoCard
end Rows
end Go.Proofs.YtgeaibhgaihobaaGreatDoor
