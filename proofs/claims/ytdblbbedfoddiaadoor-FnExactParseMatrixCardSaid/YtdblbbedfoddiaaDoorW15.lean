/- bytes.IndexByte. -/
import Derived.Test.YtdblbbedfoddiaaDoorW14
import Derived.Shelf.Bytes.SlIndexAt
namespace Go.Proofs.YtdblbbedfoddiaaDoor
set_option linter.unusedSimpArgs false
set_option linter.unusedVariables false
set_option maxRecDepth 20000
set_option maxHeartbeats 1000000
open Go.Abs Go.Shelf Go.Lib

end Go.Proofs.YtdblbbedfoddiaaDoor
