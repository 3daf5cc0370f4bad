/-
  The beginning of each law, run.
-/
import Derived.Test.YtabbjdclfmeipaaSys
set_option maxRecDepth 1000000
namespace Go.Proofs.Ytabbjdclfmeipaa
open Go.Abs
theorem e9 : acall S 9 [] = some (.b true, []) := acall_run 80 30 (by kernel_rfl)
end Go.Proofs.Ytabbjdclfmeipaa
