/-
  NARROWER THAN 'FOR EVERY INPUT', by the rows' own cells (each row's printed sentence says how): BulkAlgebra: loops · BulkMakes: loops · BulkTells: loops · BulkIs: loops.
  DERIVED. THE GIVEN ROWS OF THIS SEAT. 4 by the template 'for every input the law returns true; each argument reads behind the call as it read before'; 0 by the template 'total and deterministic' (their statements: YtabbjdclfmeipaaTotals.lean).
  GIVEN WITH THE SEED: the statements are not yours to turn. If you find one false, say at which input.
  Laid BY PROGRAM, IN A SANDBOX (cutbox-rows.mjs): the forced cells as the released guide's own fill.sh prints them over the translation 13846ea7fe852233… (all of the seat's roots in one cut). By AI agents, Wed Nov 11 2026. No macro, syntax, notation, axiom, sorry.
-/
import Derived.Test.YtabbjdclfmeipaaChecked
import GoSem.Claim
import GoSem.ClaimJoined
import GoSem.ClaimMapViews
import Derived.JoinedTies
import Derived.KernelRfl
namespace Go.Proofs.Ytabbjdclfmeipaa
/- THE CELL 'sum', in the pinned program and in every row, IS THE sha256 OF THE DUMP (.gsa) THAT YtabbjdclfmeipaaProg.lean LOADS. Nothing in Lean hashes anything: it is a label: what it is worth is what the hold of that sum in a sandbox is worth. -/
noncomputable def Try.pinned : Pinned := { name := "ytabbjdclfmeipaa", sum := "13846ea7fe8522339294d8b51de60a7688770e71a5879a2df341116fdc320751", checked := Try.checked }
namespace Rows
def none {H : Type} : Left H := { results := [], args := [] }

/-- 'ramblelaw21.BulkAlgebra': WHATEVER THE INPUT: true; the input reads as it did. -/
def bulkAlgebraSpec : ChangeSpec := { name := "bulkAlgebra", fn := fun _ => fun
  | [d1, d2, d3, d4, d5] => { results := [.lit (.bool true)], args := [d1, d2, d3, d4, d5] }
  | _ => none }
def bulkAlgebraRow : OpenClaim := { program := "ytabbjdclfmeipaa", sum := "13846ea7fe8522339294d8b51de60a7688770e71a5879a2df341116fdc320751", func := "ramble/ramblelaw21.BulkAlgebra", spec := "bulkAlgebra", inPlace := ["internal/bytealg.abigen_runtime_cmpstring", "slices.overlaps[ramble/api.Count]", "math/bits.Add64", "math/bits.Sub64"], unfollowed := true, recurses := true, loops := true, apart := false }
def BulkAlgebraSaid : Prop := bulkAlgebraRow.holds Try.pinned (OpenSpec.ofChange bulkAlgebraSpec)

/-- ITS FALSE NEIGHBOUR: 'it returns false'. Refute it at one input. -/
def bulkAlgebraWrong : ChangeSpec := { name := "bulkAlgebra", fn := fun _ => fun
  | [d1, d2, d3, d4, d5] => { results := [.lit (.bool false)], args := [d1, d2, d3, d4, d5] }
  | _ => none }
def BulkAlgebraWrongFalsely : Prop := bulkAlgebraRow.holds Try.pinned (OpenSpec.ofChange bulkAlgebraWrong)

/-- 'ramblelaw21.BulkMakes': WHATEVER THE INPUT: true; the input reads as it did. -/
def bulkMakesSpec : ChangeSpec := { name := "bulkMakes", fn := fun _ => fun
  | [d1, d2, d3, d4, d5] => { results := [.lit (.bool true)], args := [d1, d2, d3, d4, d5] }
  | _ => none }
def bulkMakesRow : OpenClaim := { program := "ytabbjdclfmeipaa", sum := "13846ea7fe8522339294d8b51de60a7688770e71a5879a2df341116fdc320751", func := "ramble/ramblelaw21.BulkMakes", spec := "bulkMakes", inPlace := ["internal/bytealg.abigen_runtime_cmpstring", "slices.overlaps[ramble/api.Count]", "math/bits.Add64", "math/bits.Sub64"], unfollowed := true, recurses := true, loops := true, apart := false }
def BulkMakesSaid : Prop := bulkMakesRow.holds Try.pinned (OpenSpec.ofChange bulkMakesSpec)

/-- ITS FALSE NEIGHBOUR: 'it returns false'. Refute it at one input. -/
def bulkMakesWrong : ChangeSpec := { name := "bulkMakes", fn := fun _ => fun
  | [d1, d2, d3, d4, d5] => { results := [.lit (.bool false)], args := [d1, d2, d3, d4, d5] }
  | _ => none }
def BulkMakesWrongFalsely : Prop := bulkMakesRow.holds Try.pinned (OpenSpec.ofChange bulkMakesWrong)

/-- 'ramblelaw21.BulkTells': WHATEVER THE INPUT: true; the input reads as it did. -/
def bulkTellsSpec : ChangeSpec := { name := "bulkTells", fn := fun _ => fun
  | [d1, d2, d3] => { results := [.lit (.bool true)], args := [d1, d2, d3] }
  | _ => none }
def bulkTellsRow : OpenClaim := { program := "ytabbjdclfmeipaa", sum := "13846ea7fe8522339294d8b51de60a7688770e71a5879a2df341116fdc320751", func := "ramble/ramblelaw21.BulkTells", spec := "bulkTells", inPlace := ["internal/bytealg.abigen_runtime_cmpstring", "math/bits.Add64", "math/bits.Sub64", "slices.overlaps[ramble/api.Count]"], unfollowed := true, recurses := true, loops := true, apart := false }
def BulkTellsSaid : Prop := bulkTellsRow.holds Try.pinned (OpenSpec.ofChange bulkTellsSpec)

/-- ITS FALSE NEIGHBOUR: 'it returns false'. Refute it at one input. -/
def bulkTellsWrong : ChangeSpec := { name := "bulkTells", fn := fun _ => fun
  | [d1, d2, d3] => { results := [.lit (.bool false)], args := [d1, d2, d3] }
  | _ => none }
def BulkTellsWrongFalsely : Prop := bulkTellsRow.holds Try.pinned (OpenSpec.ofChange bulkTellsWrong)

/-- 'ramblelaw21.BulkIs': WHATEVER THE INPUT: true; the input reads as it did. -/
def bulkIsSpec : ChangeSpec := { name := "bulkIs", fn := fun _ => fun
  | [d] => { results := [.lit (.bool true)], args := [d] }
  | _ => none }
def bulkIsRow : OpenClaim := { program := "ytabbjdclfmeipaa", sum := "13846ea7fe8522339294d8b51de60a7688770e71a5879a2df341116fdc320751", func := "ramble/ramblelaw21.BulkIs", spec := "bulkIs", inPlace := ["internal/bytealg.abigen_runtime_cmpstring", "slices.overlaps[ramble/api.Count]", "math/bits.Add64", "math/bits.Sub64"], unfollowed := true, recurses := true, loops := true, apart := false }
def BulkIsSaid : Prop := bulkIsRow.holds Try.pinned (OpenSpec.ofChange bulkIsSpec)

/-- ITS FALSE NEIGHBOUR: 'it returns false'. Refute it at one input. -/
def bulkIsWrong : ChangeSpec := { name := "bulkIs", fn := fun _ => fun
  | [d] => { results := [.lit (.bool false)], args := [d] }
  | _ => none }
def BulkIsWrongFalsely : Prop := bulkIsRow.holds Try.pinned (OpenSpec.ofChange bulkIsWrong)

/- THE SECOND FORM. 'bulk': how many values and letters a reading holds, each counted each time it is reached (what is shared counts as often as it is met; a slice's spare places count too). A statement '..UptoSaid' is the law's where the arguments, and the package variables that the reading takes, are together of bulk at most 1048576: NARROWER than '..Said'. Prove '..Said' where nothing that the law and all that it calls make is longer than what came in: it says more and counts as full. Else prove '..UptoSaid'. A law counts once. -/
mutual
def uptoBulk {H : Type} : DataW H → Nat
  | .lit (.string bytes) => bytes.length + 1
  | .lit _ => 1
  | .nil => 1
  | .ptr d => uptoBulk d + 1
  | .slice elems spare => uptoBulkAll elems + uptoBulkAll spare + 1
  | .agg parts => uptoBulkAll parts + 1
  | .iface _ d => uptoBulk d + 1
  | .map entries => uptoBulkEntries entries + 1
  | .held _ => 1
def uptoBulkAll {H : Type} : List (DataW H) → Nat
  | [] => 0
  | d :: r => uptoBulk d + uptoBulkAll r
def uptoBulkEntries {H : Type} : List (Lit × DataW H) → Nat
  | [] => 0
  | x :: r => uptoBulkEntry x + uptoBulkEntries r
def uptoBulkEntry {H : Type} : Lit × DataW H → Nat
  | (.string bytes, d) => bytes.length + uptoBulk d + 1
  | (_, d) => uptoBulk d + 1
 end
def uptoSmall : (H : Type) → List (DataW H) → Bool := fun _ ds => decide (uptoBulkAll ds ≤ 1048576)
def OpenSpec.upto (s : _root_.Go.ChangeSpec) : _root_.Go.OpenSpec := { _root_.Go.OpenSpec.ofChange s with cond := some uptoSmall }

/-- 'ramblelaw21.BulkAlgebra', WHERE WHAT IT READS IS OF BULK AT MOST 1048576: true; the input reads as it did. -/
def bulkAlgebraUptoRow : OpenClaim := { program := "ytabbjdclfmeipaa", sum := "13846ea7fe8522339294d8b51de60a7688770e71a5879a2df341116fdc320751", func := "ramble/ramblelaw21.BulkAlgebra", spec := "bulkAlgebra", inPlace := ["internal/bytealg.abigen_runtime_cmpstring", "slices.overlaps[ramble/api.Count]", "math/bits.Add64", "math/bits.Sub64"], unfollowed := true, recurses := true, loops := true, apart := false, narrowed := true }
def BulkAlgebraUptoSaid : Prop := bulkAlgebraUptoRow.holds Try.pinned (OpenSpec.upto bulkAlgebraSpec)

/-- 'ramblelaw21.BulkMakes', WHERE WHAT IT READS IS OF BULK AT MOST 1048576: true; the input reads as it did. -/
def bulkMakesUptoRow : OpenClaim := { program := "ytabbjdclfmeipaa", sum := "13846ea7fe8522339294d8b51de60a7688770e71a5879a2df341116fdc320751", func := "ramble/ramblelaw21.BulkMakes", spec := "bulkMakes", inPlace := ["internal/bytealg.abigen_runtime_cmpstring", "slices.overlaps[ramble/api.Count]", "math/bits.Add64", "math/bits.Sub64"], unfollowed := true, recurses := true, loops := true, apart := false, narrowed := true }
def BulkMakesUptoSaid : Prop := bulkMakesUptoRow.holds Try.pinned (OpenSpec.upto bulkMakesSpec)

/-- 'ramblelaw21.BulkTells', WHERE WHAT IT READS IS OF BULK AT MOST 1048576: true; the input reads as it did. -/
def bulkTellsUptoRow : OpenClaim := { program := "ytabbjdclfmeipaa", sum := "13846ea7fe8522339294d8b51de60a7688770e71a5879a2df341116fdc320751", func := "ramble/ramblelaw21.BulkTells", spec := "bulkTells", inPlace := ["internal/bytealg.abigen_runtime_cmpstring", "math/bits.Add64", "math/bits.Sub64", "slices.overlaps[ramble/api.Count]"], unfollowed := true, recurses := true, loops := true, apart := false, narrowed := true }
def BulkTellsUptoSaid : Prop := bulkTellsUptoRow.holds Try.pinned (OpenSpec.upto bulkTellsSpec)

/-- 'ramblelaw21.BulkIs', WHERE WHAT IT READS IS OF BULK AT MOST 1048576: true; the input reads as it did. -/
def bulkIsUptoRow : OpenClaim := { program := "ytabbjdclfmeipaa", sum := "13846ea7fe8522339294d8b51de60a7688770e71a5879a2df341116fdc320751", func := "ramble/ramblelaw21.BulkIs", spec := "bulkIs", inPlace := ["internal/bytealg.abigen_runtime_cmpstring", "slices.overlaps[ramble/api.Count]", "math/bits.Add64", "math/bits.Sub64"], unfollowed := true, recurses := true, loops := true, apart := false, narrowed := true }
def BulkIsUptoSaid : Prop := bulkIsUptoRow.holds Try.pinned (OpenSpec.upto bulkIsSpec)

end Rows
end Go.Proofs.Ytabbjdclfmeipaa
