/- The converters and comparers of the laws' package: what they return. -/
import Derived.Test.YtalbdgkbinndlaaDoorTypes
import Derived.Test.YtalbdgkbinndlaaDoorAbsM
import Derived.Test.YtalbdgkbinndlaaDoorAbsN
import Derived.Test.YtalbdgkbinndlaaDoorAbsR
namespace Go.Proofs.YtalbdgkbinndlaaDoor
set_option linter.unusedSimpArgs false
set_option linter.unusedVariables false
set_option maxRecDepth 20000
set_option maxHeartbeats 1000000
open Go.Abs

theorem over_pre (f g : Nat → UInt8) (k m : Nat) : over (pre (k * m) f g) (k * m) m (fun t => f (k * m + t)) = pre ((k + 1) * m) f g := by
  funext j
  unfold over pre
  generalize hq : k * m = q
  have hq2 : (k + 1) * m = q + m := by rw [Nat.add_mul, Nat.one_mul, hq]
  rw [hq2]
  by_cases h1 : j < q
  · rw [if_neg (by omega), if_pos h1, if_pos (by omega)]
  · by_cases h2 : j < q + m
    · rw [if_pos (by omega), if_pos h2]; show f (q + (j - q)) = f j; congr 1; omega
    · rw [if_neg (by omega), if_neg h1, if_neg h2]

theorem pre_zero' (f g : Nat → UInt8) (m : Nat) : pre (0 * m) f g = g := by rw [Nat.zero_mul]; exact pre_zero f g

end Go.Proofs.YtalbdgkbinndlaaDoor
