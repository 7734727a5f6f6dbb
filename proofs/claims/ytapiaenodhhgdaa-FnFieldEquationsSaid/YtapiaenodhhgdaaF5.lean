/- Interpolation: both ways of reckoning it give the same. Plain Lean. -/
import Derived.Test.YtapiaenodhhgdaaF4
import Derived.Test.YtapiaenodhhgdaaF3
namespace Go.Proofs.Ytapiaenodhhgdaa
set_option linter.unusedSimpArgs false
set_option linter.unusedVariables false
set_option maxRecDepth 20000
set_option maxHeartbeats 1000000
open Go.Abs

/-- A row and the row shifted by one, added: the first n elements taken. -/
def stp (c0 c1 : Nat → UInt8) (n : Nat) : Nat → UInt8 := fun j => if j < n then (if j = 0 then c0 0 else c1 (j - 1) ^^^ c0 j) else if j = n ∧ 0 < n then c1 (n - 1) else 0
theorem stp_zero (c0 c1 : Nat → UInt8) : stp c0 c1 0 = fun _ => 0 := by funext j; simp [stp]
theorem stp_at (c0 c1 : Nat → UInt8) (n : Nat) : stp c0 c1 n (n + 1) = 0 := by unfold stp; rw [if_neg (by omega), if_neg (by omega)]
theorem stp_step (c0 c1 : Nat → UInt8) (n : Nat) : upd (upd (stp c0 c1 n) n (stp c0 c1 n n ^^^ c0 n)) (n + 1) (upd (stp c0 c1 n) n (stp c0 c1 n n ^^^ c0 n) (n + 1) ^^^ c1 n) = stp c0 c1 (n + 1) := by
  have h2 : upd (stp c0 c1 n) n (stp c0 c1 n n ^^^ c0 n) (n + 1) = 0 := by unfold upd; rw [if_neg (by omega)]; exact stp_at c0 c1 n
  rw [h2, UInt8.zero_xor]
  funext j
  unfold upd
  by_cases h3 : j = n + 1
  · subst h3; rw [if_pos rfl]; unfold stp; rw [if_neg (by omega), if_pos (by omega)]; rfl
  · rw [if_neg h3]
    by_cases h4 : j = n
    · subst h4; rw [if_pos rfl]; unfold stp
      by_cases h5 : j = 0
      · subst h5; simp
      · rw [if_neg (show ¬ j < j by omega), if_pos (show j = j ∧ 0 < j from ⟨rfl, by omega⟩), if_pos (show j < j + 1 by omega), if_neg h5]
    · rw [if_neg h4]; unfold stp
      by_cases h5 : j < n
      · rw [if_pos h5, if_pos (show j < n + 1 by omega)]
      · rw [if_neg h5, if_neg (show ¬ (j = n ∧ 0 < n) by omega), if_neg (show ¬ j < n + 1 by omega), if_neg (show ¬ (j = n + 1 ∧ 0 < n + 1) by omega)]

/-- How long the polynomial is after k places, the i-th left out. -/
def lagL (i k : Nat) : Nat := if i < k then k else k + 1
theorem lagL_zero (i : Nat) : lagL i 0 = 1 := rfl
theorem lagL_same (i : Nat) : lagL i (i + 1) = lagL i i := by unfold lagL; rw [if_pos (by omega), if_neg (by omega)]
theorem lagL_step {i k : Nat} (h : k ≠ i) : lagL i (k + 1) = lagL i k + 1 := by
  unfold lagL
  by_cases h1 : i < k
  · rw [if_pos h1, if_pos (by omega)]
  · rw [if_neg h1, if_neg (by omega)]
theorem lagL_end {i n : Nat} (h : i < n) : lagL i n = n := if_pos h
theorem lagL_le {i k n : Nat} (h : k < n) (hn : n ≤ 40) : lagL i k ≤ 40 := by unfold lagL; split <;> omega
def own0 : Nat → UInt8 := fun n => if n = 0 then 1 else 0
section
variable (m : Nat) (f v : Nat → UInt8) (i : Nat)
def own : Nat → Nat → UInt8
  | 0 => own0
  | k + 1 => if k = i then own k else stp (fun n => tm m (own k n) (f k)) (own k) (lagL i k)
def ownC (k : Nat) : Nat → UInt8 := fun n => tm m (own m f i k n) (f k)
def bot : Nat → UInt8
  | 0 => 1
  | k + 1 => if k = i then bot k else tm m (bot k) (f i ^^^ f k)
def part : Nat → Nat → UInt8
  | 0 => own0
  | k + 1 => if k = i then part k else stp (fun n => tm m (tm m (part k n) (f k)) (inv m (f i ^^^ f k))) (fun n => tm m (part k n) (inv m (f i ^^^ f k))) (lagL i k)
def partC (k : Nat) : Nat → UInt8 := fun n => tm m (tm m (part m f i k n) (f k)) (inv m (f i ^^^ f k))
def partD (k : Nat) : Nat → UInt8 := fun n => tm m (part m f i k n) (inv m (f i ^^^ f k))
end
def outS (m : Nat) (f v : Nat → UInt8) (N : Nat) : Nat → Nat → UInt8
  | 0 => fun _ => 0
  | i + 1 => fun n => outS m f v N i n ^^^ tm m (own m f i N n) (tm m (v i) (inv m (bot m f i N)))
def outI (m : Nat) (f v : Nat → UInt8) (N : Nat) : Nat → Nat → UInt8
  | 0 => fun _ => 0
  | i + 1 => fun n => outI m f v N i n ^^^ tm m (part m f i N n) (v i)
section
variable {m : Nat} {f v : Nat → UInt8} {i k : Nat}
theorem own_same : own m f i (i + 1) = own m f i i := by rw [own, if_pos rfl]
theorem own_step (h : k ≠ i) : own m f i (k + 1) = stp (ownC m f i k) (own m f i k) (lagL i k) := by rw [own, if_neg h]; rfl
theorem bot_same : bot m f i (i + 1) = bot m f i i := by rw [bot, if_pos rfl]
theorem bot_step (h : k ≠ i) : bot m f i (k + 1) = tm m (bot m f i k) (f i ^^^ f k) := by rw [bot, if_neg h]
theorem part_same : part m f i (i + 1) = part m f i i := by rw [part, if_pos rfl]
theorem part_step (h : k ≠ i) : part m f i (k + 1) = stp (partC m f i k) (partD m f i k) (lagL i k) := by rw [part, if_neg h]; rfl
theorem bot_zero : bot m f i 0 = 1 := rfl
theorem own_zero : Bs (lagL i 0) (own m f i 0) = [B 1] := rfl
theorem part_zero : Bs (lagL i 0) (part m f i 0) = [B 1] := rfl
theorem stp_scale (h0 : 256 ≤ m) (h1 : m < 512) (c0 c1 : Nat → UInt8) (w : UInt8) (n j : Nat) : stp (fun n => tm m (c0 n) w) (fun n => tm m (c1 n) w) n j = tm m (stp c0 c1 n j) w := by
  unfold stp
  split
  · split
    · rfl
    · rw [tm_xorL h0 h1]
  · split
    · rfl
    · rw [tm_zero]
theorem part_own (h0 : 256 ≤ m) (h1 : m < 512) (f : Nat → UInt8) (i : Nat) : ∀ k, part m f i k = fun n => tm m (own m f i k n) (inv m (bot m f i k))
  | 0 => by funext n; show own0 n = tm m (own0 n) (inv m 1); rw [inv_one h0 h1, tm_oneR h0 h1]
  | k + 1 => by
    by_cases h : k = i
    · subst h; rw [part_same, own_same, bot_same]; exact part_own h0 h1 f k k
    · have e : ∀ a x b c, tm m (tm m (tm m a x) b) c = tm m (tm m a b) (tm m x c) := fun a x b c => by rw [tm_assoc h0 h1 (tm m a x), tm_swap h0 h1]
      rw [part_step h, own_step h, bot_step h, inv_mul h0 h1]
      funext n
      rw [← stp_scale h0 h1]
      congr 1
      · funext n; unfold partC ownC; rw [part_own h0 h1 f i k]; exact e _ _ _ _
      · funext n; unfold partD; rw [part_own h0 h1 f i k]; exact tm_assoc h0 h1 _ _ _
theorem outI_eq (h0 : 256 ≤ m) (h1 : m < 512) (f v : Nat → UInt8) (N : Nat) : ∀ i, outI m f v N i = outS m f v N i
  | 0 => rfl
  | i + 1 => by
    funext n
    show outI m f v N i n ^^^ _ = outS m f v N i n ^^^ _
    rw [outI_eq h0 h1 f v N i, part_own h0 h1 f i N, tm_assoc h0 h1, tm_comm h0 h1 (inv m _)]
end
end Go.Proofs.Ytapiaenodhhgdaa
