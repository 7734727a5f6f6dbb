/- MixBlock. -/
import Derived.Test.YtapiaenodhhgdaaW7
namespace Go.Proofs.Ytapiaenodhhgdaa
set_option linter.unusedSimpArgs false
set_option linter.unusedVariables false
set_option maxRecDepth 20000
set_option maxHeartbeats 1000000
open Go.Abs

def zeroF : Nat → UInt8 := fun _ => 0
theorem fieldB_nat {m : Int} (hf : fieldB m.toNat = true) : ∃ n : Nat, m = n ∧ fieldB n = true ∧ 256 ≤ n ∧ n < 512 := by
  have hf' := hf
  unfold fieldB at hf
  rw [Bool.and_eq_true, Bool.and_eq_true, decide_eq_true_eq, decide_eq_true_eq] at hf
  exact ⟨m.toNat, by omega, hf', by omega, by omega⟩
end Go.Proofs.Ytapiaenodhhgdaa
