/- Which moduli are fields. -/
import Derived.Test.YtdblbbedfoddiaaDoorW5
namespace Go.Proofs.YtdblbbedfoddiaaDoor
set_option linter.unusedSimpArgs false
set_option linter.unusedVariables false
set_option maxRecDepth 20000
set_option maxHeartbeats 1000000
open Go.Abs

theorem inR_nat {m : Int} (hr : inR m 256 511 = true) : ∃ n : Nat, m = n ∧ 256 ≤ n ∧ n < 512 := by
  unfold inR at hr
  rw [Bool.and_eq_true, decide_eq_true_eq, decide_eq_true_eq] at hr
  exact ⟨m.toNat, by omega, by omega, by omega⟩
theorem fieldB_in {m : Int} (hr : inR m 256 511 = false) : fieldB m.toNat = false := by
  unfold inR at hr
  unfold fieldB
  rw [Bool.and_eq_false_iff, decide_eq_false_iff_not, decide_eq_false_iff_not] at hr
  have : (decide (256 ≤ m.toNat) && decide (m.toNat < 512)) = false := by
    rw [Bool.and_eq_false_iff, decide_eq_false_iff_not, decide_eq_false_iff_not]; omega
  rw [this]; rfl
theorem fieldB_eq {n : Nat} (h0 : 256 ≤ n) (h1 : n < 512) : fieldB n = fieldAll n 30 := by
  unfold fieldB fieldAll; simp [h0, h1]
theorem blen_two (k : Nat) : 1 ≤ blen (k + 2) - 1 := by
  have : ¬ blen (k + 2) ≤ 1 := fun h => by have := lt_of_blen h; omega
  omega
theorem restN_lt5 {m d g : Nat} (h1 : m < 512) (h3 : d < 2 ^ 5) (hg : 1 ≤ g) : restN d g m < 1048576 := restD_lt h3 hg (by omega) _

end Go.Proofs.YtdblbbedfoddiaaDoor
