/-
  NARROWER THAN 'FOR EVERY INPUT', by the rows' own cells (each row's printed sentence says how): TravelWay: loops, laid · TravelSame: loops, laid · TravelStays: loops, laid · TravelGoes: loops, laid.
  DERIVED. THE GIVEN ROWS OF THIS SEAT. 4 by the template 'for every input the law returns true; each argument reads behind the call as it read before'; 0 by the template 'total and deterministic' (their statements: YtmdbfbcolofelaaDoorTotals.lean).
  GIVEN WITH THE SEED: the statements are not yours to turn. If you find one false, say at which input.
  Laid BY PROGRAM, IN A SANDBOX (cutbox-rows.mjs): the forced cells as the released guide's own fill.sh prints them over the translation b6d439a40c1e43d6… (all of the seat's roots in one cut). By AI agents, Wed Nov 11 2026. No macro, syntax, notation, axiom, sorry.
-/
import Derived.Test.YtmdbfbcolofelaaDoorChecked
import GoSem.PinnedTables
import GoSem.Claim
import GoSem.ClaimJoined
import GoSem.ClaimMapViews
import Derived.JoinedTies
import Derived.KernelRfl
namespace Go.Proofs.YtmdbfbcolofelaaDoor
/- THE CELL 'sum', in the pinned program and in every row, IS THE sha256 OF THE DUMP (.gsa) THAT YtmdbfbcolofelaaDoorProg.lean LOADS. Nothing in Lean hashes anything: it is a label: what it is worth is what the hold of that sum in a sandbox is worth. -/
noncomputable def Tryd.pinned : Pinned := { name := "ytmdbfbcolofelaadoor", sum := "b6d439a40c1e43d638dc5549b15d851f10a7ad4cdf3b67291ff4ba9951dd8039", checked := Tryd.checked }
namespace Rows
def none {H : Type} : Left H := { results := [], args := [] }

/- WHAT THE LISTED PACKAGE-LEVEL VARIABLES READ AS WHEN THE CALL BEGINS. Each datum BY PROGRAM (the guide's laid-datum.mjs) off the statement by which the dump's own 'gosem.cut.vars' lays the variable. In a bare row this is a premise. The card (YtmdbfbcolofelaaDoorCards.lean) ties it to the program's text. -/
def laid_unicode_utf8_acceptRanges {H : Type} : DataW H := .agg [.agg [.lit (.int .u8 128), .lit (.int .u8 191)], .agg [.lit (.int .u8 160), .lit (.int .u8 191)], .agg [.lit (.int .u8 128), .lit (.int .u8 159)], .agg [.lit (.int .u8 144), .lit (.int .u8 191)], .agg [.lit (.int .u8 128), .lit (.int .u8 143)], .agg [.lit (.int .u8 0), .lit (.int .u8 0)], .agg [.lit (.int .u8 0), .lit (.int .u8 0)], .agg [.lit (.int .u8 0), .lit (.int .u8 0)], .agg [.lit (.int .u8 0), .lit (.int .u8 0)], .agg [.lit (.int .u8 0), .lit (.int .u8 0)], .agg [.lit (.int .u8 0), .lit (.int .u8 0)], .agg [.lit (.int .u8 0), .lit (.int .u8 0)], .agg [.lit (.int .u8 0), .lit (.int .u8 0)], .agg [.lit (.int .u8 0), .lit (.int .u8 0)], .agg [.lit (.int .u8 0), .lit (.int .u8 0)], .agg [.lit (.int .u8 0), .lit (.int .u8 0)]]
/-- One of Go's own tables, pinned by name: the form's constant. -/
def laid_unicode_utf8_first : DataW Unit := Go.Pinned.utf8First

/-- 'ramblelaw18.TravelWay': WHATEVER THE INPUT: true; the input reads as it did. -/
def travelWaySpec : ChangeSpec := { name := "travelWay", fn := fun _ => fun
  | [d1, d2, d3] => { results := [.lit (.bool true)], args := [d1, d2, d3] }
  | _ => none }
def travelWayRow : OpenClaim := { program := "ytmdbfbcolofelaadoor", sum := "b6d439a40c1e43d638dc5549b15d851f10a7ad4cdf3b67291ff4ba9951dd8039", func := "ramble/ramblelaw18.TravelWay", spec := "travelWay", inPlace := ["internal/bytealg.IndexByteString", "internal/bytealg.IndexString", "internal/bytealg.abigen_runtime_cmpstring"], unfollowed := true, recurses := true, named := ["unicode/utf8.first", "unicode/utf8.acceptRanges", "internal/bytealg.MaxLen"], loops := true, apart := false, laid := [("unicode/utf8.acceptRanges", laid_unicode_utf8_acceptRanges), ("unicode/utf8.first", laid_unicode_utf8_first)] }
def TravelWaySaid : Prop := travelWayRow.holds Tryd.pinned (OpenSpec.ofChange travelWaySpec)

/-- ITS FALSE NEIGHBOUR: 'it returns false'. Refute it at one input. -/
def travelWayWrong : ChangeSpec := { name := "travelWay", fn := fun _ => fun
  | [d1, d2, d3] => { results := [.lit (.bool false)], args := [d1, d2, d3] }
  | _ => none }
def TravelWayWrongFalsely : Prop := travelWayRow.holds Tryd.pinned (OpenSpec.ofChange travelWayWrong)

/-- 'ramblelaw18.TravelSame': WHATEVER THE INPUT: true; the input reads as it did. -/
def travelSameSpec : ChangeSpec := { name := "travelSame", fn := fun _ => fun
  | [d1, d2, d3] => { results := [.lit (.bool true)], args := [d1, d2, d3] }
  | _ => none }
def travelSameRow : OpenClaim := { program := "ytmdbfbcolofelaadoor", sum := "b6d439a40c1e43d638dc5549b15d851f10a7ad4cdf3b67291ff4ba9951dd8039", func := "ramble/ramblelaw18.TravelSame", spec := "travelSame", inPlace := ["internal/bytealg.IndexByteString", "internal/bytealg.IndexString", "internal/bytealg.abigen_runtime_cmpstring"], unfollowed := true, recurses := true, named := ["unicode/utf8.first", "unicode/utf8.acceptRanges", "internal/bytealg.MaxLen"], loops := true, apart := false, laid := [("unicode/utf8.acceptRanges", laid_unicode_utf8_acceptRanges), ("unicode/utf8.first", laid_unicode_utf8_first)] }
def TravelSameSaid : Prop := travelSameRow.holds Tryd.pinned (OpenSpec.ofChange travelSameSpec)

/-- ITS FALSE NEIGHBOUR: 'it returns false'. Refute it at one input. -/
def travelSameWrong : ChangeSpec := { name := "travelSame", fn := fun _ => fun
  | [d1, d2, d3] => { results := [.lit (.bool false)], args := [d1, d2, d3] }
  | _ => none }
def TravelSameWrongFalsely : Prop := travelSameRow.holds Tryd.pinned (OpenSpec.ofChange travelSameWrong)

/-- 'ramblelaw18.TravelStays': WHATEVER THE INPUT: true; the input reads as it did. -/
def travelStaysSpec : ChangeSpec := { name := "travelStays", fn := fun _ => fun
  | [d1, d2, d3] => { results := [.lit (.bool true)], args := [d1, d2, d3] }
  | _ => none }
def travelStaysRow : OpenClaim := { program := "ytmdbfbcolofelaadoor", sum := "b6d439a40c1e43d638dc5549b15d851f10a7ad4cdf3b67291ff4ba9951dd8039", func := "ramble/ramblelaw18.TravelStays", spec := "travelStays", inPlace := ["internal/bytealg.IndexByteString", "internal/bytealg.IndexString", "internal/bytealg.abigen_runtime_cmpstring"], unfollowed := true, recurses := true, named := ["unicode/utf8.first", "unicode/utf8.acceptRanges", "internal/bytealg.MaxLen"], loops := true, apart := false, laid := [("unicode/utf8.acceptRanges", laid_unicode_utf8_acceptRanges), ("unicode/utf8.first", laid_unicode_utf8_first)] }
def TravelStaysSaid : Prop := travelStaysRow.holds Tryd.pinned (OpenSpec.ofChange travelStaysSpec)

/-- ITS FALSE NEIGHBOUR: 'it returns false'. Refute it at one input. -/
def travelStaysWrong : ChangeSpec := { name := "travelStays", fn := fun _ => fun
  | [d1, d2, d3] => { results := [.lit (.bool false)], args := [d1, d2, d3] }
  | _ => none }
def TravelStaysWrongFalsely : Prop := travelStaysRow.holds Tryd.pinned (OpenSpec.ofChange travelStaysWrong)

/-- 'ramblelaw18.TravelGoes': WHATEVER THE INPUT: true; the input reads as it did. -/
def travelGoesSpec : ChangeSpec := { name := "travelGoes", fn := fun _ => fun
  | [d1, d2, d3] => { results := [.lit (.bool true)], args := [d1, d2, d3] }
  | _ => none }
def travelGoesRow : OpenClaim := { program := "ytmdbfbcolofelaadoor", sum := "b6d439a40c1e43d638dc5549b15d851f10a7ad4cdf3b67291ff4ba9951dd8039", func := "ramble/ramblelaw18.TravelGoes", spec := "travelGoes", inPlace := ["internal/bytealg.IndexByteString", "internal/bytealg.IndexString", "internal/bytealg.abigen_runtime_cmpstring"], unfollowed := true, recurses := true, named := ["unicode/utf8.first", "unicode/utf8.acceptRanges", "internal/bytealg.MaxLen"], loops := true, apart := false, laid := [("unicode/utf8.acceptRanges", laid_unicode_utf8_acceptRanges), ("unicode/utf8.first", laid_unicode_utf8_first)] }
def TravelGoesSaid : Prop := travelGoesRow.holds Tryd.pinned (OpenSpec.ofChange travelGoesSpec)

/-- ITS FALSE NEIGHBOUR: 'it returns false'. Refute it at one input. -/
def travelGoesWrong : ChangeSpec := { name := "travelGoes", fn := fun _ => fun
  | [d1, d2, d3] => { results := [.lit (.bool false)], args := [d1, d2, d3] }
  | _ => none }
def TravelGoesWrongFalsely : Prop := travelGoesRow.holds Tryd.pinned (OpenSpec.ofChange travelGoesWrong)

/- THE SECOND FORM. 'bulk': how many values and letters a reading holds, each counted each time it is reached (what is shared counts as often as it is met; a slice's spare places count too). A statement '..UptoSaid' is the law's where the arguments, and the package variables that the reading takes, are together of bulk at most 1048576: NARROWER than '..Said'. Prove '..Said' where nothing that the law and all that it calls make is longer than what came in: it says more and counts as full. Else prove '..UptoSaid'. A law counts once. -/
mutual
def uptoBulk {H : Type} : DataW H → Nat
  | .lit (.string bytes) => bytes.length + 1
  | .lit _ => 1
  | .nil => 1
  | .ptr d => uptoBulk d + 1
  | .slice elems spare => uptoBulkAll elems + uptoBulkAll spare + 1
  | .agg parts => uptoBulkAll parts + 1
  | .iface _ d => uptoBulk d + 1
  | .map entries => uptoBulkEntries entries + 1
  | .held _ => 1
def uptoBulkAll {H : Type} : List (DataW H) → Nat
  | [] => 0
  | d :: r => uptoBulk d + uptoBulkAll r
def uptoBulkEntries {H : Type} : List (Lit × DataW H) → Nat
  | [] => 0
  | x :: r => uptoBulkEntry x + uptoBulkEntries r
def uptoBulkEntry {H : Type} : Lit × DataW H → Nat
  | (.string bytes, d) => bytes.length + uptoBulk d + 1
  | (_, d) => uptoBulk d + 1
 end
def uptoSmall : (H : Type) → List (DataW H) → Bool := fun _ ds => decide (uptoBulkAll ds ≤ 1048576)
def OpenSpec.upto (s : _root_.Go.ChangeSpec) : _root_.Go.OpenSpec := { _root_.Go.OpenSpec.ofChange s with cond := some uptoSmall }

/-- 'ramblelaw18.TravelWay', WHERE WHAT IT READS IS OF BULK AT MOST 1048576: true; the input reads as it did. -/
def travelWayUptoRow : OpenClaim := { program := "ytmdbfbcolofelaadoor", sum := "b6d439a40c1e43d638dc5549b15d851f10a7ad4cdf3b67291ff4ba9951dd8039", func := "ramble/ramblelaw18.TravelWay", spec := "travelWay", inPlace := ["internal/bytealg.IndexByteString", "internal/bytealg.IndexString", "internal/bytealg.abigen_runtime_cmpstring"], unfollowed := true, recurses := true, named := ["unicode/utf8.first", "unicode/utf8.acceptRanges", "internal/bytealg.MaxLen"], loops := true, apart := false, laid := [("unicode/utf8.acceptRanges", laid_unicode_utf8_acceptRanges), ("unicode/utf8.first", laid_unicode_utf8_first)], narrowed := true }
def TravelWayUptoSaid : Prop := travelWayUptoRow.holds Tryd.pinned (OpenSpec.upto travelWaySpec)

/-- 'ramblelaw18.TravelSame', WHERE WHAT IT READS IS OF BULK AT MOST 1048576: true; the input reads as it did. -/
def travelSameUptoRow : OpenClaim := { program := "ytmdbfbcolofelaadoor", sum := "b6d439a40c1e43d638dc5549b15d851f10a7ad4cdf3b67291ff4ba9951dd8039", func := "ramble/ramblelaw18.TravelSame", spec := "travelSame", inPlace := ["internal/bytealg.IndexByteString", "internal/bytealg.IndexString", "internal/bytealg.abigen_runtime_cmpstring"], unfollowed := true, recurses := true, named := ["unicode/utf8.first", "unicode/utf8.acceptRanges", "internal/bytealg.MaxLen"], loops := true, apart := false, laid := [("unicode/utf8.acceptRanges", laid_unicode_utf8_acceptRanges), ("unicode/utf8.first", laid_unicode_utf8_first)], narrowed := true }
def TravelSameUptoSaid : Prop := travelSameUptoRow.holds Tryd.pinned (OpenSpec.upto travelSameSpec)

/-- 'ramblelaw18.TravelStays', WHERE WHAT IT READS IS OF BULK AT MOST 1048576: true; the input reads as it did. -/
def travelStaysUptoRow : OpenClaim := { program := "ytmdbfbcolofelaadoor", sum := "b6d439a40c1e43d638dc5549b15d851f10a7ad4cdf3b67291ff4ba9951dd8039", func := "ramble/ramblelaw18.TravelStays", spec := "travelStays", inPlace := ["internal/bytealg.IndexByteString", "internal/bytealg.IndexString", "internal/bytealg.abigen_runtime_cmpstring"], unfollowed := true, recurses := true, named := ["unicode/utf8.first", "unicode/utf8.acceptRanges", "internal/bytealg.MaxLen"], loops := true, apart := false, laid := [("unicode/utf8.acceptRanges", laid_unicode_utf8_acceptRanges), ("unicode/utf8.first", laid_unicode_utf8_first)], narrowed := true }
def TravelStaysUptoSaid : Prop := travelStaysUptoRow.holds Tryd.pinned (OpenSpec.upto travelStaysSpec)

/-- 'ramblelaw18.TravelGoes', WHERE WHAT IT READS IS OF BULK AT MOST 1048576: true; the input reads as it did. -/
def travelGoesUptoRow : OpenClaim := { program := "ytmdbfbcolofelaadoor", sum := "b6d439a40c1e43d638dc5549b15d851f10a7ad4cdf3b67291ff4ba9951dd8039", func := "ramble/ramblelaw18.TravelGoes", spec := "travelGoes", inPlace := ["internal/bytealg.IndexByteString", "internal/bytealg.IndexString", "internal/bytealg.abigen_runtime_cmpstring"], unfollowed := true, recurses := true, named := ["unicode/utf8.first", "unicode/utf8.acceptRanges", "internal/bytealg.MaxLen"], loops := true, apart := false, laid := [("unicode/utf8.acceptRanges", laid_unicode_utf8_acceptRanges), ("unicode/utf8.first", laid_unicode_utf8_first)], narrowed := true }
def TravelGoesUptoSaid : Prop := travelGoesUptoRow.holds Tryd.pinned (OpenSpec.upto travelGoesSpec)

end Rows
end Go.Proofs.YtmdbfbcolofelaaDoor
