/- Ranks: the reference. -/
import Derived.Test.YtkgiocoiojdgfaaF7
import Derived.Test.YtkgiocoiojdgfaaW30
import Derived.Test.YtkgiocoiojdgfaaL2
namespace Go.Proofs.Ytkgiocoiojdgfaa
set_option linter.unusedSimpArgs false
set_option linter.unusedVariables false
set_option maxRecDepth 20000
set_option maxHeartbeats 1000000
open Go.Abs

theorem bit0 (a i : Nat) : (a >>> i &&& 1 == 0) = !a.testBit i := by
  rw [← bit_N, Nat.and_one_is_mod]
  rcases Nat.mod_two_eq_zero_or_one (a >>> i) with h | h <;> rw [h] <;> rfl
theorem Is_snoc' {n : Nat} {f : Nat → Int} {x : Int} (h : f n = x) : Is n f ++ [.int .i64 x] = Is (n + 1) f := by rw [← h]; exact Is_snoc f
theorem upd_id {α : Type} (f : Nat → α) (i : Nat) : upd f i (f i) = f := by
  funext j; unfold upd; split
  · rename_i h; rw [h]
  · rfl
theorem aOf_pre4 (R : Nat) (a : Nat → UInt8) (E : Nat → Nat → UInt8) (q : Nat) (g x : Nat → UInt8) : aOf R a (upd E q (pre 4 g x)) = aOf R a (upd E q g) := by
  funext n
  unfold aOf
  split
  · unfold upd
    split
    · exact if_pos (Nat.mod_lt n (by omega))
    · rfl
  · rfl
/-- The list of rows, as they stand. -/
def rwF (R : Nat) (s : Nat → Nat) : Nat → Int := fun p => ((kp R (s p) : Nat) : Int)
theorem rwF_sw (R : Nat) (s : Nat → Nat) (i k : Nat) : upd (upd (rwF R s) i (rwF R s k)) k ((kp R (s i) : Nat) : Int) = rwF R (swS s i k) := by
  funext p
  unfold upd rwF swS upd
  by_cases h1 : p = k
  · rw [if_pos h1, if_pos h1]
  · rw [if_neg h1, if_neg h1]
    by_cases h2 : p = i
    · rw [if_pos h2, if_pos h2]
    · rw [if_neg h2, if_neg h2]

end Go.Proofs.Ytkgiocoiojdgfaa
