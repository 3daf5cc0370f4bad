import Derived.Test.YtgeaibhgaihobaaDoorV5
set_option linter.unusedSimpArgs false
set_option linter.unusedVariables false
set_option maxHeartbeats 8000000
set_option maxRecDepth 100000
namespace Go.Proofs.YtgeaibhgaihobaaDoor
open Go.Abs
end Go.Proofs.YtgeaibhgaihobaaDoor
