/- DeterminantIn, InverseMatrix. -/
import Derived.Test.YtdblbbedfoddiaaDoorW9
import Derived.Test.YtdblbbedfoddiaaDoorW10
namespace Go.Proofs.YtdblbbedfoddiaaDoor
set_option linter.unusedSimpArgs false
set_option linter.unusedVariables false
set_option maxRecDepth 20000
set_option maxHeartbeats 1000000
open Go.Abs

def codeF (m : Int) : Int := if fieldB m.toNat then 0 else 1
def invMF (m : Int) (a : Nat → UInt8) : Nat → UInt8 := if fieldB m.toNat && detF m.toNat a != 0 then backF m.toNat a else zeroF
def invMC (m : Int) (a : Nat → UInt8) : Int := if fieldB m.toNat then (if detF m.toNat a != 0 then 0 else 5) else 1
end Go.Proofs.YtdblbbedfoddiaaDoor
