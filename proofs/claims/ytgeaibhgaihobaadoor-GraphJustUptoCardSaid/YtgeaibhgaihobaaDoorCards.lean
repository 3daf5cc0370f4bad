/-
  DERIVED. GIVEN WITH THE SEED: THE CARDS: each row of YtgeaibhgaihobaaDoorRows.lean that lists a variable, with what it lists TIED to the program's text (the seventh form; the later family's looks); each row that meets fmt, with fmt's text TOLD by the authors' own Lean function (tested against real Go, not proved from fmt's source: count such statements apart). THE CARD IS WHAT COUNTS. Prove the row's statement (the work); the ties are given (YtgeaibhgaihobaaDoorTie.lean); close each card by the builder's one call (the guide's Derived/Test/ToyasCard.lean, 'card_holds'). Laid BY PROGRAM, IN A SANDBOX (cutbox-door.mjs). By AI agents, Wed Nov 11 2026. No macro, syntax, notation, axiom, sorry.
-/
import Derived.Test.YtgeaibhgaihobaaDoorRows
import GoSem.ClaimSeven
namespace Go.Proofs.YtgeaibhgaihobaaDoor
namespace Rows

/-- THE TIED CARD OF 'ramblelaw10.GraphBoth'. -/
def graphBothCard : Claim7 := { stood := { row := graphBothRow, standIns := [], harness := (true, "9885c2f66e271770bb8b9d35b4c8426dbdbfd8a27cc7066e41fb8dab6b8bb715"), looks := false }, kinds := [], alts := [], laidByText := true, laidKinds := [.data, .pinned], laidTests := true, laidLooks := .later }
def GraphBothCardSaid : Prop := Claim7.holds Tryd.pinned (.plain (OpenSpec.ofChange graphBothSpec)) graphBothCard

/-- THE TIED CARD OF 'ramblelaw10.GraphJust'. -/
def graphJustCard : Claim7 := { stood := { row := graphJustRow, standIns := [], harness := (true, "9885c2f66e271770bb8b9d35b4c8426dbdbfd8a27cc7066e41fb8dab6b8bb715"), looks := false }, kinds := [], alts := [], laidByText := true, laidKinds := [.data, .pinned], laidTests := true, laidLooks := .later }
def GraphJustCardSaid : Prop := Claim7.holds Tryd.pinned (.plain (OpenSpec.ofChange graphJustSpec)) graphJustCard

/-- THE SECOND FORM's CARD OF 'ramblelaw10.GraphBoth'. -/
def graphBothUptoCard : Claim7 := { stood := { row := graphBothUptoRow, standIns := [], harness := (true, "9885c2f66e271770bb8b9d35b4c8426dbdbfd8a27cc7066e41fb8dab6b8bb715"), looks := false }, kinds := [], alts := [], laidByText := true, laidKinds := [.data, .pinned], laidTests := true, laidLooks := .later }
def GraphBothUptoCardSaid : Prop := Claim7.holds Tryd.pinned (.plain (OpenSpec.upto graphBothSpec)) graphBothUptoCard

/-- THE SECOND FORM's CARD OF 'ramblelaw10.GraphJust'. -/
def graphJustUptoCard : Claim7 := { stood := { row := graphJustUptoRow, standIns := [], harness := (true, "9885c2f66e271770bb8b9d35b4c8426dbdbfd8a27cc7066e41fb8dab6b8bb715"), looks := false }, kinds := [], alts := [], laidByText := true, laidKinds := [.data, .pinned], laidTests := true, laidLooks := .later }
def GraphJustUptoCardSaid : Prop := Claim7.holds Tryd.pinned (.plain (OpenSpec.upto graphJustSpec)) graphJustUptoCard
end Rows
end Go.Proofs.YtgeaibhgaihobaaDoor
