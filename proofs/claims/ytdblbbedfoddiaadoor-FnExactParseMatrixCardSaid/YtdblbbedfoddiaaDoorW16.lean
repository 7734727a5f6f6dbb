/- CauchyMatrix. -/
import Derived.Test.YtdblbbedfoddiaaDoorW15
import Derived.Test.YtdblbbedfoddiaaDoorW8
namespace Go.Proofs.YtdblbbedfoddiaaDoor
set_option linter.unusedSimpArgs false
set_option linter.unusedVariables false
set_option maxRecDepth 20000
set_option maxHeartbeats 1000000
open Go.Abs

theorem indexByte_neg : ∀ (l : List UInt8) (x : UInt8), decide (0 ≤ Lib.indexByte l x) = l.any fun y => x == y
  | [], _ => rfl
  | y :: l, x => by
    have ih := indexByte_neg l x
    rw [List.any_cons, ← ih, Lib.indexByte]
    by_cases h : y = x
    · subst h; simp
    · have h1 : (y == x) = false := by simpa using h
      have h2 : (x == y) = false := by simpa using fun e => h e.symm
      have h3 := Lib.indexByte_ge l x
      rw [h1, h2, Bool.false_or, if_neg (by simp)]
      by_cases h4 : Lib.indexByte l x = -1
      · rw [h4]; rfl
      · rw [if_neg (by simpa using h4), decide_eq_decide]; omega
theorem indexByte_twice (f : Nat → UInt8) (i : Nat) : decide (0 ≤ Lib.indexByte ((List.range i).map fun j => f (0 + j)) (f i)) = twiceAt f i i := by
  rw [indexByte_neg, List.any_map]; unfold twiceAt; congr 1; funext j; simp

/-- The matrix of the inverses of the sums. -/
def cauF (m : Nat) (f g : Nat → UInt8) : Nat → UInt8 := fun n => inv m (f (n / 4) ^^^ g (n % 4))
theorem cau_at {m i j : Nat} {f g : Nat → UInt8} (hj : j < 4) : inv m (f i ^^^ g j) = cauF m f g (i * 4 + j) := by
  unfold cauF; rw [show (i * 4 + j) / 4 = i by omega, show (i * 4 + j) % 4 = j by omega]
end Go.Proofs.YtdblbbedfoddiaaDoor
