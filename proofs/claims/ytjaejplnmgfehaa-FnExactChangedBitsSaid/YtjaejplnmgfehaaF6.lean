/- Halves joined, the right half, the exclusive or. -/
import Derived.Test.YtjaejplnmgfehaaAbsG
namespace Go.Proofs.Ytjaejplnmgfehaa
set_option linter.unusedSimpArgs false
set_option linter.unusedVariables false
set_option maxRecDepth 20000
set_option maxHeartbeats 1000000
open Go.Abs

def joinF (f g : Nat → UInt8) : Nat → UInt8 := fun i => if i < 8 then f i else g (i - 8)
def rightF (f : Nat → UInt8) : Nat → UInt8 := fun i => f (8 + i)
def xorF (f g : Nat → UInt8) : Nat → UInt8 := fun i => f i ^^^ g i
end Go.Proofs.Ytjaejplnmgfehaa
