/- A part of the proof of FnKeysAndTexts. -/
import Derived.Test.YtkdpjkpedklbpaaGreatDoorQKTH
/- Halves joined, the right half, the exclusive or. -/
namespace Go.Proofs.YtkdpjkpedklbpaaGreatDoor
set_option linter.unusedSimpArgs false
set_option linter.unusedVariables false
set_option maxRecDepth 20000
set_option maxHeartbeats 1000000
open Go.Abs

def xorF (f g : Nat → UInt8) : Nat → UInt8 := fun i => f i ^^^ g i
end Go.Proofs.YtkdpjkpedklbpaaGreatDoor
