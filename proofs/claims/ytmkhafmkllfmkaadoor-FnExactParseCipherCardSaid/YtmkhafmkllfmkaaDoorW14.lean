/- Lists of bytes: copies and comparisons. -/
import Derived.Test.YtmkhafmkllfmkaaDoorW1
import Derived.Test.YtmkhafmkllfmkaaDoorAbsS
import Derived.Test.YtmkhafmkllfmkaaDoorAbsT
namespace Go.Proofs.YtmkhafmkllfmkaaDoor
set_option linter.unusedSimpArgs false
set_option linter.unusedVariables false
set_option maxRecDepth 20000
set_option maxHeartbeats 1000000
open Go.Abs

/-- An element that stands ahead of the i-th too. -/
def twiceAt (f : Nat → UInt8) (i k : Nat) : Bool := (List.range k).any fun j => f i == f j
def twiceP (f : Nat → UInt8) (n : Nat) : Bool := (List.range n).any fun i => twiceAt f i i
theorem twiceAt_s {f : Nat → UInt8} {i k : Nat} (h : twiceAt f i k = false) (h2 : (f i == f k) = false) : twiceAt f i (k + 1) = false := by
  unfold twiceAt at *; rw [List.range_succ, List.any_append, h]; simpa using h2
theorem twiceAt_t {f : Nat → UInt8} {i k n : Nat} (hk : k < n) (h2 : (f i == f k) = true) : twiceAt f i n = true := by
  unfold twiceAt; rw [List.any_eq_true]; exact ⟨k, List.mem_range.2 hk, h2⟩
theorem twiceP_s {f : Nat → UInt8} {k : Nat} (h : twiceP f k = false) (h2 : twiceAt f k k = false) : twiceP f (k + 1) = false := by
  unfold twiceP at *; rw [List.range_succ, List.any_append, h]; simpa using h2
theorem twiceP_t {f : Nat → UInt8} {k n : Nat} (hk : k < n) (h2 : twiceAt f k k = true) : twiceP f n = true := by
  unfold twiceP; rw [List.any_eq_true]; exact ⟨k, List.mem_range.2 hk, h2⟩
end Go.Proofs.YtmkhafmkllfmkaaDoor
