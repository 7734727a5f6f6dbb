/- Lists of halves and of blocks: the converters, comparers and markers of the laws' package. -/
import Derived.Test.YtalbdgkbinndlaaDoorW14
import Derived.Test.YtalbdgkbinndlaaDoorAbsU
namespace Go.Proofs.YtalbdgkbinndlaaDoor
set_option linter.unusedSimpArgs false
set_option linter.unusedVariables false
set_option maxRecDepth 20000
set_option maxHeartbeats 1000000
open Go.Abs

/-- The numbers from k on, as bytes. -/
def mkF (k : Nat) : Nat → UInt8 := fun i => UInt8.ofNat (k + i)
theorem lit1 (n : Nat) (f g : Nat → UInt8) : splice (repA (Bs n f) 1) (0 * n) (Bs n g) = Bs n g := by
  rw [Nat.zero_mul]
  exact Abs.splice_all (by simp [repA, Bs_length])
theorem repA_zero (z n : Nat) : repA (Bs z fun _ => 0) n = Bs (n * z) fun _ => 0 := by
  unfold repA Bs
  rw [List.length_map, List.length_range]
  apply List.map_congr_left
  intro i hi
  have hz : 0 < z := by
    rcases Nat.eq_zero_or_pos z with h | h
    · subst h; rw [Nat.mul_zero] at hi; simp at hi
    · exact h
  have := Nat.mod_lt i hz
  simp [List.getD_eq_getElem?_getD, this]
theorem mkF_at (k i : Nat) : UInt8.ofNat (k + i) = mkF k i := rfl

end Go.Proofs.YtalbdgkbinndlaaDoor
