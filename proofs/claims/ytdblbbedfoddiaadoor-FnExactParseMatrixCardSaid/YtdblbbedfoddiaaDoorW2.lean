/- Comparers and converters of the structs of the laws' package: what they return. -/
import Derived.Test.YtdblbbedfoddiaaDoorW1
namespace Go.Proofs.YtdblbbedfoddiaaDoor
set_option linter.unusedSimpArgs false
set_option linter.unusedVariables false
set_option maxRecDepth 20000
set_option maxHeartbeats 1000000
open Go.Abs

end Go.Proofs.YtdblbbedfoddiaaDoor
