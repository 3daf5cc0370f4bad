import Derived.Test.YtgeaibhgaihobaaDoorSys
set_option maxRecDepth 1000000
namespace Go.Proofs.YtgeaibhgaihobaaDoor
open Go.Abs
theorem e5 : acall S 5 [] = some (.b true, []) := acall_run 80 30 (by kernel_rfl)
end Go.Proofs.YtgeaibhgaihobaaDoor
