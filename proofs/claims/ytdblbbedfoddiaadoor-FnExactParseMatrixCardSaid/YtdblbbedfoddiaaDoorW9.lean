/- Reducing a matrix: the reference. -/
import Derived.Test.YtdblbbedfoddiaaDoorF3
namespace Go.Proofs.YtdblbbedfoddiaaDoor
set_option linter.unusedSimpArgs false
set_option linter.unusedVariables false
set_option maxRecDepth 20000
set_option maxHeartbeats 1000000
open Go.Abs

end Go.Proofs.YtdblbbedfoddiaaDoor
