/- Powers, inverses, mixing a block. -/
import Derived.Test.YtdblbbedfoddiaaDoorW6
namespace Go.Proofs.YtdblbbedfoddiaaDoor
set_option linter.unusedSimpArgs false
set_option linter.unusedVariables false
set_option maxRecDepth 20000
set_option maxHeartbeats 1000000
open Go.Abs

/-- The product of two bytes modulo m. -/
def tm (m : Nat) (a b : UInt8) : UInt8 := UInt8.ofNat (mulN m a.toNat b.toNat)
/-- Squared i times. -/
def sqP (m : Nat) (a : UInt8) : Nat → UInt8
  | 0 => a
  | i + 1 => tm m (sqP m a i) (sqP m a i)
def poP (m : Nat) (a : UInt8) (e : Nat) : Nat → UInt8
  | 0 => 1
  | i + 1 => if e.testBit i then tm m (poP m a e i) (sqP m a i) else poP m a e i
def po (m : Nat) (a : UInt8) (e : Nat) : UInt8 := poP m a e (blen e)
def inv (m : Nat) (a : UInt8) : UInt8 := po m a 254
theorem poP_t {m : Nat} {a : UInt8} {e i : Nat} (h : e.testBit i = true) : poP m a e (i + 1) = tm m (poP m a e i) (sqP m a i) := by rw [poP, if_pos h]
theorem poP_f {m : Nat} {a : UInt8} {e i : Nat} (h : e.testBit i = false) : poP m a e (i + 1) = poP m a e i := by rw [poP, h]; rfl

/-- One byte of a mixed block: the first k products. -/
def mxP (m : Nat) (a b : Nat → UInt8) (c i : Nat) : Nat → UInt8
  | 0 => 0
  | k + 1 => mxP m a b c i k ^^^ tm m (a (i * 4 + k)) (b (4 * c + k))
def mixF (m : Nat) (a b : Nat → UInt8) : Nat → UInt8 := fun n => mxP m a b (n / 4) (n % 4) 4
/-- n bytes done, and the n-th begun. -/
def doneF (g : Nat → UInt8) (n : Nat) (x : UInt8) : Nat → UInt8 := fun i => if i < n then g i else if i = n then x else 0
theorem doneF_start (g : Nat → UInt8) : doneF g 0 0 = fun _ => 0 := by funext i; simp [doneF]
theorem doneF_set (g : Nat → UInt8) (n : Nat) (x y : UInt8) : upd (doneF g n x) n y = doneF g n y := by
  funext i; unfold upd doneF; by_cases h : i = n
  · subst h; simp
  · simp [h]
theorem doneF_at (g : Nat → UInt8) (n : Nat) (x : UInt8) : doneF g n x n = x := by simp [doneF]
theorem doneF_next {g : Nat → UInt8} {n : Nat} {x : UInt8} (h : g n = x) : doneF g n x = doneF g (n + 1) 0 := by
  funext i; unfold doneF; by_cases h1 : i < n
  · rw [if_pos h1, if_pos (by omega)]
  · by_cases h2 : i = n
    · subst h2; rw [if_neg h1, if_pos rfl, if_pos (by omega), h]
    · rw [if_neg h1, if_neg h2, if_neg (by omega)]; simp
theorem doneF_all (g : Nat → UInt8) (n : Nat) (x : UInt8) : Bs n (doneF g n x) = Bs n g := Bs_congr fun i hi => by simp [doneF, hi]

end Go.Proofs.YtdblbbedfoddiaaDoor
