/- Fields: what the program and the reference reckon. -/
import Derived.Test.YtdblbbedfoddiaaDoorW1
import Derived.Test.YtdblbbedfoddiaaDoorAbsS
import Derived.Test.YtdblbbedfoddiaaDoorAbsT
import Derived.Test.YtdblbbedfoddiaaDoorF1
namespace Go.Proofs.YtdblbbedfoddiaaDoor
set_option linter.unusedSimpArgs false
set_option linter.unusedVariables false
set_option maxRecDepth 20000
set_option maxHeartbeats 1000000
open Go.Abs

def inR (n a b : Int) : Bool := decide (a ≤ n) && decide (n ≤ b)

end Go.Proofs.YtdblbbedfoddiaaDoor
