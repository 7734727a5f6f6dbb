/- A part of the proof of FnTrails. -/
import Derived.Test.YtenkjbkcdcionaaGreatQTLH
/- Products of polynomials over two elements, and which are irreducible. Plain Lean. -/
namespace Go.Abs
set_option linter.unusedSimpArgs false
set_option linter.unusedVariables false
set_option maxRecDepth 20000
set_option maxHeartbeats 1000000

def dbl (m x : Nat) : Nat := if 256 ≤ 2 * x then (2 * x) ^^^ m else 2 * x
def dblN (m a : Nat) : Nat → Nat
  | 0 => a
  | k + 1 => dbl m (dblN m a k)
def mulP (m a b : Nat) : Nat → Nat
  | 0 => 0
  | k + 1 => if b.testBit k then mulP m a b k ^^^ dblN m a k else mulP m a b k
def mulN (m a b : Nat) : Nat := mulP m a b 8

def clP (a b : Nat) : Nat → Nat
  | 0 => 0
  | k + 1 => if b.testBit k then clP a b k ^^^ (a <<< k) else clP a b k
def restP (m d a : Nat) : Nat → Nat
  | 0 => a
  | k + 1 => if (restP m d a k).testBit (15 - k) then restP m d a k ^^^ (m <<< (15 - k - d)) else restP m d a k
def restN (m d a : Nat) : Nat := restP m d a (16 - d)

theorem xor_lt {x y n : Nat} (hx : x < 2 ^ n) (hy : y < 2 ^ n) : x ^^^ y < 2 ^ n := Nat.xor_lt_two_pow hx hy

theorem restP_xor (m d : Nat) (x y : Nat) : ∀ k, restP m d (x ^^^ y) k = restP m d x k ^^^ restP m d y k
  | 0 => rfl
  | k + 1 => by
    simp only [restP, restP_xor m d x y k, Nat.testBit_xor]
    generalize restP m d x k = u
    generalize restP m d y k = v
    generalize m <<< (15 - k - d) = c
    cases u.testBit (15 - k) <;> cases v.testBit (15 - k) <;> simp only [Bool.false_bne, Bool.bne_false, Bool.true_bne, bne_self_eq_false, Bool.not_true, Bool.false_eq_true, if_true, if_false]
    · rw [Nat.xor_assoc]
    · rw [Nat.xor_assoc, Nat.xor_comm v c, ← Nat.xor_assoc]
    · rw [Nat.xor_assoc, Nat.xor_comm c, Nat.xor_assoc, Nat.xor_self, Nat.xor_zero]

theorem xor_top {y c i : Nat} (hy : y < 2 ^ (i + 1)) (hc : c < 2 ^ (i + 1)) (hyi : y.testBit i = true) (hci : c.testBit i = true) : y ^^^ c < 2 ^ i := by
  apply Nat.lt_pow_two_of_testBit
  intro j hj
  rw [Nat.testBit_xor]
  by_cases hji : j = i
  · subst hji; rw [hyi, hci]; rfl
  · rw [Nat.testBit_lt_two_pow (Nat.lt_of_lt_of_le hy (Nat.pow_le_pow_right (by omega) (by omega))), Nat.testBit_lt_two_pow (Nat.lt_of_lt_of_le hc (Nat.pow_le_pow_right (by omega) (by omega)))]; rfl

theorem lt_top {y i : Nat} (hy : y < 2 ^ (i + 1)) (hyi : y.testBit i = false) : y < 2 ^ i := by
  rcases Nat.lt_or_ge y (2 ^ i) with h | h
  · exact h
  · have := Nat.testBit_of_two_pow_le_and_two_pow_add_one_gt h hy
    rw [this] at hyi; cases hyi

theorem m_top {m : Nat} (h0 : 256 ≤ m) (h1 : m < 512) : m.testBit 8 = true := Nat.testBit_of_two_pow_le_and_two_pow_add_one_gt (i := 8) h0 h1

theorem restP_lt {m : Nat} (h0 : 256 ≤ m) (h1 : m < 512) {a : Nat} (ha : a < 2 ^ 16) : ∀ k, k ≤ 8 → restP m 8 a k < 2 ^ (16 - k)
  | 0, _ => ha
  | k + 1, hk => by
    have ih := restP_lt h0 h1 ha k (by omega)
    simp only [restP]
    generalize restP m 8 a k = y at *
    have e : 16 - k = (15 - k) + 1 := by omega
    rw [e] at ih
    rw [show 16 - (k + 1) = 15 - k by omega]
    cases hb : y.testBit (15 - k) with
    | false => simp only [Bool.false_eq_true, if_false]; exact lt_top ih hb
    | true =>
      simp only [if_true]
      refine xor_top ih ?_ hb ?_
      · rw [Nat.shiftLeft_eq]
        have : 2 ^ (15 - k + 1) = 512 * 2 ^ (15 - k - 8) := by
          rw [show 15 - k + 1 = 9 + (15 - k - 8) by omega, Nat.pow_add]
        rw [this]
        exact Nat.mul_lt_mul_of_pos_right h1 (Nat.two_pow_pos _)
      · rw [Nat.testBit_shiftLeft]
        simp only [show 15 - k - (15 - k - 8) = 8 by omega, m_top h0 h1, Bool.and_true, decide_eq_true_eq]
        omega

theorem restN_lt {m : Nat} (h0 : 256 ≤ m) (h1 : m < 512) {a : Nat} (ha : a < 2 ^ 16) : restN m 8 a < 256 := restP_lt h0 h1 ha 8 (by omega)

theorem two_xor (x y : Nat) : 2 * (x ^^^ y) = (2 * x) ^^^ (2 * y) := by
  have := Nat.shiftLeft_xor_distrib (a := x) (b := y) (i := 1)
  simp only [Nat.shiftLeft_eq, Nat.pow_one] at this
  rw [Nat.mul_comm, this, Nat.mul_comm x, Nat.mul_comm y]

theorem restP_two {m : Nat} {x : Nat} (hx : x < 2 ^ 15) : ∀ k, k ≤ 7 → restP m 8 (2 * x) k = 2 * restP m 8 x (k + 1)
  | 0, _ => by
    have : x.testBit 15 = false := Nat.testBit_lt_two_pow hx
    simp [restP, this]
  | k + 1, hk => by
    have ih := restP_two (m := m) hx k (by omega)
    rw [restP, ih, show restP m 8 x (k + 1 + 1) = if (restP m 8 x (k + 1)).testBit (15 - (k + 1)) then restP m 8 x (k + 1) ^^^ (m <<< (15 - (k + 1) - 8)) else restP m 8 x (k + 1) from rfl]
    generalize restP m 8 x (k + 1) = y
    have hb : (2 * y).testBit (15 - k) = y.testBit (15 - (k + 1)) := by
      rw [show 15 - k = (15 - (k + 1)) + 1 by omega, Nat.testBit_succ]; congr 1; omega
    rw [hb]
    cases y.testBit (15 - (k + 1)) with
    | false => simp
    | true =>
      simp only [if_true]
      rw [two_xor]
      congr 1
      rw [Nat.shiftLeft_eq, Nat.shiftLeft_eq, show 15 - k - 8 = (15 - (k + 1) - 8) + 1 by omega, Nat.pow_succ]
      generalize 2 ^ (15 - (k + 1) - 8) = c
      rw [Nat.mul_comm 2 (m * c), Nat.mul_assoc]

theorem restN_two {m : Nat} (h0 : 256 ≤ m) (h1 : m < 512) {x : Nat} (hx : x < 2 ^ 15) : restN m 8 (2 * x) = dbl m (restN m 8 x) := by
  have hlt := restN_lt h0 h1 (a := x) (by omega)
  show restP m 8 (2 * x) (7 + 1) = dbl m (restP m 8 x 8)
  rw [restP, restP_two hx 7 (by omega)]
  have hlt' : restP m 8 x 8 < 256 := hlt
  generalize restP m 8 x 8 = y at *
  show (if (2 * y).testBit 8 = true then 2 * y ^^^ m <<< 0 else 2 * y) = dbl m y
  unfold dbl
  by_cases h : 256 ≤ 2 * y
  · rw [if_pos h, if_pos (Nat.testBit_of_two_pow_le_and_two_pow_add_one_gt (i := 8) h (by omega))]; simp
  · rw [if_neg h, if_neg]
    rw [Nat.testBit_lt_two_pow (by omega)]; simp

theorem restN_small {m a : Nat} (ha : a < 256) : restN m 8 a = a := by
  have : ∀ k, k ≤ 8 → restP m 8 a k = a := by
    intro k
    induction k with
    | zero => intro _; rfl
    | succ k ih =>
      intro hk
      rw [restP, ih (by omega), if_neg]
      rw [Nat.testBit_lt_two_pow]
      · simp
      · exact Nat.lt_of_lt_of_le ha (show 2 ^ 8 ≤ 2 ^ (15 - k) from Nat.pow_le_pow_right (by omega) (by omega))
  exact this 8 (by omega)

theorem restN_shift {m : Nat} (h0 : 256 ≤ m) (h1 : m < 512) {a : Nat} (ha : a < 256) : ∀ k, k ≤ 8 → restN m 8 (a <<< k) = dblN m a k
  | 0, _ => by simpa [dblN] using restN_small ha
  | k + 1, hk => by
    have : a <<< (k + 1) = 2 * (a <<< k) := by rw [Nat.shiftLeft_eq, Nat.shiftLeft_eq, Nat.pow_succ, ← Nat.mul_assoc, Nat.mul_comm]
    rw [this, restN_two h0 h1, restN_shift h0 h1 ha k (by omega)]
    · rfl
    · rw [Nat.shiftLeft_eq]
      have h2 : 2 ^ k ≤ 2 ^ 7 := Nat.pow_le_pow_right (by omega) (by omega)
      calc a * 2 ^ k < 256 * 2 ^ k := Nat.mul_lt_mul_of_pos_right ha (Nat.two_pow_pos _)
        _ ≤ 256 * 2 ^ 7 := Nat.mul_le_mul_left _ h2

theorem restN_zero (m d : Nat) : restN m d 0 = 0 := by
  have : ∀ k, restP m d 0 k = 0 := by
    intro k
    induction k with
    | zero => rfl
    | succ k ih => rw [restP, ih]; simp
  exact this _

theorem rest_cl {m : Nat} (h0 : 256 ≤ m) (h1 : m < 512) {a b : Nat} (ha : a < 256) : ∀ k, k ≤ 8 → restN m 8 (clP a b k) = mulP m a b k
  | 0, _ => restN_zero m 8
  | k + 1, hk => by
    have ih := rest_cl h0 h1 (b := b) ha k (by omega)
    rw [clP, mulP]
    cases b.testBit k with
    | false => simpa using ih
    | true =>
      simp only [if_true]
      rw [show restN m 8 (clP a b k ^^^ a <<< k) = restN m 8 (clP a b k) ^^^ restN m 8 (a <<< k) from restP_xor m 8 _ _ 8, ih, restN_shift h0 h1 ha k (by omega)]

theorem dbl_lt {m : Nat} (h0 : 256 ≤ m) (h1 : m < 512) {x : Nat} (hx : x < 256) : dbl m x < 256 := by
  unfold dbl
  split
  · rename_i h
    exact xor_top (i := 8) (by omega) (by omega) (Nat.testBit_of_two_pow_le_and_two_pow_add_one_gt h (by omega)) (m_top h0 h1)
  · omega
theorem dblN_lt {m : Nat} (h0 : 256 ≤ m) (h1 : m < 512) {a : Nat} (ha : a < 256) : ∀ k, dblN m a k < 256
  | 0 => ha
  | k + 1 => dbl_lt h0 h1 (dblN_lt h0 h1 ha k)
theorem mulP_lt {m : Nat} (h0 : 256 ≤ m) (h1 : m < 512) {a b : Nat} (ha : a < 256) : ∀ k, mulP m a b k < 256
  | 0 => by simp [mulP]
  | k + 1 => by
    have := mulP_lt h0 h1 (b := b) ha k
    rw [mulP]
    split
    · exact xor_lt (n := 8) this (dblN_lt h0 h1 ha k)
    · exact this
theorem clP_lt {a b : Nat} (ha : a < 256) : ∀ k, k ≤ 8 → clP a b k < 2 ^ 15
  | 0, _ => by simp [clP]
  | k + 1, hk => by
    have := clP_lt (b := b) ha k (by omega)
    rw [clP]
    split
    · refine xor_lt this ?_
      rw [Nat.shiftLeft_eq]
      have h2 : 2 ^ k ≤ 2 ^ 7 := Nat.pow_le_pow_right (by omega) (by omega)
      calc a * 2 ^ k < 256 * 2 ^ k := Nat.mul_lt_mul_of_pos_right ha (Nat.two_pow_pos _)
        _ ≤ 256 * 2 ^ 7 := Nat.mul_le_mul_left _ h2
    · exact this

def blen (x : Nat) : Nat := if x = 0 then 0 else Nat.log2 x + 1
theorem blen_pos {n k : Nat} (h : k < blen n) : 0 < n >>> k := by
  unfold blen at h
  split at h
  · omega
  · rename_i hn
    rw [Nat.shiftRight_eq_div_pow]
    have : 2 ^ k ≤ n := Nat.le_trans (Nat.pow_le_pow_right (by omega) (show k ≤ n.log2 by omega)) (Nat.log2_self_le hn)
    exact Nat.div_pos this (Nat.two_pow_pos _)
theorem blen_done (n : Nat) : n >>> blen n = 0 := by
  unfold blen
  split
  · rename_i hn; rw [hn]; rfl
  · rename_i hn
    rw [Nat.shiftRight_eq_div_pow]
    exact Nat.div_eq_of_lt (Nat.lt_log2_self)
theorem blen_lt {n k : Nat} (h : n < 2 ^ k) : blen n ≤ k := by
  unfold blen
  split
  · omega
  · rename_i hn
    exact (Nat.log2_lt hn).2 h

def divP (b : Nat) : Nat → Nat → Nat
  | 0, a => a
  | f + 1, a => if blen a < blen b then a else divP b f (a ^^^ (b <<< (blen a - blen b)))
def divN (b a : Nat) : Nat := divP b 16 a

def fieldB (m : Nat) : Bool := decide (256 ≤ m) && decide (m < 512) && (List.range 30).all fun i => restN (i + 2) (blen (i + 2) - 1) m != 0

theorem div_rest0 : ∀ m, m < 256 → ∀ i, i < 30 → divN (i + 2) (m + 256) = restN (i + 2) (blen (i + 2) - 1) (m + 256) := by decide +kernel
theorem div_rest {m : Nat} (h0 : 256 ≤ m) (h1 : m < 512) {d : Nat} (h2 : 2 ≤ d) (h3 : d < 32) : divN d m = restN d (blen d - 1) m := by
  have := div_rest0 (m - 256) (by omega) (d - 2) (by omega)
  rwa [show m - 256 + 256 = m by omega, show d - 2 + 2 = d by omega] at this

theorem dblN_t {m a k : Nat} (h : 256 ≤ dblN m a k * 2) : dblN m a (k + 1) = (dblN m a k * 2) ^^^ m := by
  rw [dblN, dbl, Nat.mul_comm 2, if_pos h]
theorem dblN_f {m a k : Nat} (h : ¬ 256 ≤ dblN m a k * 2) : dblN m a (k + 1) = dblN m a k * 2 := by
  rw [dblN, dbl, Nat.mul_comm 2, if_neg h]
theorem mulP_t {m a b k : Nat} (h : b.testBit k = true) : mulP m a b (k + 1) = mulP m a b k ^^^ dblN m a k := by
  rw [mulP, if_pos h]
theorem mulP_f {m a b k : Nat} (h : b.testBit k = false) : mulP m a b (k + 1) = mulP m a b k := by
  rw [mulP, h]; rfl
theorem clP_t {a b k : Nat} (h : b.testBit k = true) : clP a b (k + 1) = clP a b k ^^^ (a <<< k) := by
  rw [clP, if_pos h]
theorem clP_f {a b k : Nat} (h : b.testBit k = false) : clP a b (k + 1) = clP a b k := by
  rw [clP, h]; rfl
theorem blen_top {b k : Nat} (h : blen b ≤ k) : b.testBit k = false := by
  refine Nat.testBit_lt_two_pow ?_
  unfold blen at h
  split at h
  · rename_i h0; rw [h0]; exact Nat.two_pow_pos _
  · exact (Nat.log2_lt (by assumption)).1 (by omega)
theorem mulP_done (m a b : Nat) : ∀ k, mulP m a b (blen b + k) = mulP m a b (blen b)
  | 0 => rfl
  | k + 1 => by rw [← Nat.add_assoc, mulP_f (blen_top (Nat.le_add_right _ _)), mulP_done m a b k]
theorem mulN_blen {m a b : Nat} (h : b < 256) : mulP m a b (blen b) = mulN m a b := by
  have := blen_lt (k := 8) h
  rw [mulN, show 8 = blen b + (8 - blen b) by omega, mulP_done]
theorem mulN_cl {m : Nat} (h0 : 256 ≤ m) (h1 : m < 512) {a b : Nat} (ha : a < 256) : restP m 8 (clP a b 8) 8 = mulN m a b := rest_cl h0 h1 ha 8 (by omega)
theorem mulN_lt {m : Nat} (h0 : 256 ≤ m) (h1 : m < 512) {a b : Nat} (ha : a < 256) : mulN m a b < 256 := mulP_lt h0 h1 ha 8
theorem restP_t {m d a k : Nat} (h : (restP m d a k).testBit (15 - k) = true) : restP m d a (k + 1) = restP m d a k ^^^ (m <<< (15 - k - d)) := by
  rw [restP, if_pos h]
theorem restP_f {m d a k : Nat} (h : (restP m d a k).testBit (15 - k) = false) : restP m d a (k + 1) = restP m d a k := by
  rw [restP, h]; rfl
theorem lt_blen (a : Nat) : a < 2 ^ blen a := by
  unfold blen; split
  · rename_i h; rw [h]; decide
  · exact Nat.lt_log2_self
theorem blen_bit {a : Nat} (h : a ≠ 0) : a.testBit (blen a - 1) = true := by
  unfold blen; rw [if_neg h]
  exact Nat.testBit_of_two_pow_le_and_two_pow_add_one_gt (i := a.log2) (Nat.log2_self_le h) Nat.lt_log2_self
def divStep (b a : Nat) : Nat := a ^^^ (b <<< (blen a - blen b))
theorem blen_ne {a : Nat} (h : 0 < blen a) : a ≠ 0 := by intro e; rw [e] at h; exact absurd h (by decide)
theorem blen_step {a b : Nat} (hb : b ≠ 0) (h : blen b ≤ blen a) : blen (divStep b a) < blen a := by
  have h1 : 0 < blen b := by unfold blen; rw [if_neg hb]; omega
  have ha : a ≠ 0 := blen_ne (by omega)
  have : divStep b a < 2 ^ (blen a - 1) := by
    refine xor_top (i := blen a - 1) ?_ ?_ (blen_bit ha) ?_
    · rw [show blen a - 1 + 1 = blen a by omega]; exact lt_blen a
    · rw [show blen a - 1 + 1 = blen b + (blen a - blen b) by omega, Nat.pow_add, Nat.shiftLeft_eq]
      exact Nat.mul_lt_mul_of_pos_right (lt_blen b) (Nat.two_pow_pos _)
    · rw [Nat.testBit_shiftLeft]
      simp only [show blen a - 1 - (blen a - blen b) = blen b - 1 by omega, blen_bit hb, Bool.and_true, decide_eq_true_eq]
      omega
  have := blen_lt this
  omega
def divS (b a : Nat) : Nat → Nat
  | 0 => a
  | k + 1 => divStep b (divS b a k)
def divC (b : Nat) : Nat → Nat → Nat
  | 0, _ => 0
  | f + 1, a => if blen a < blen b then 0 else divC b f (divStep b a) + 1
theorem divS_succ (b a : Nat) : ∀ k, divS b a (k + 1) = divS b (divStep b a) k
  | 0 => rfl
  | k + 1 => by rw [divS, divS_succ b a k]; rfl
theorem divC_go {b : Nat} : ∀ f a k, k < divC b f a → blen b ≤ blen (divS b a k)
  | 0, _, _, h => by simp [divC] at h
  | f + 1, a, k, h => by
    rw [divC] at h
    split at h
    · omega
    · cases k with
      | zero => rw [divS]; omega
      | succ k => rw [divS_succ]; exact divC_go f _ k (by omega)
theorem divC_end {b : Nat} (hb : b ≠ 0) : ∀ f a, blen a ≤ f → blen (divS b a (divC b f a)) < blen b ∧ divS b a (divC b f a) = divP b f a
  | 0, a, h => by
    have h1 : 0 < blen b := by unfold blen; rw [if_neg hb]; omega
    exact ⟨by simp only [divC, divS]; omega, rfl⟩
  | f + 1, a, h => by
    rw [divC, divP]
    split
    · rename_i hc
      exact ⟨hc, rfl⟩
    · rename_i hc
      have := blen_step hb (a := a) (by omega)
      have ih := divC_end hb f (divStep b a) (by omega)
      rw [divS_succ]
      exact ih
theorem divS_lt {b a : Nat} (hb : b ≠ 0) {f : Nat} : ∀ k, k ≤ divC b f a → blen (divS b a k) ≤ blen a
  | 0, _ => Nat.le_refl _
  | k + 1, h => by
    have := divS_lt (a := a) (f := f) hb k (by omega)
    have := blen_step hb (divC_go f a k (by omega))
    rw [divS]; omega
theorem lt_of_blen {a k : Nat} (h : blen a ≤ k) : a < 2 ^ k := Nat.lt_of_lt_of_le (lt_blen a) (Nat.pow_le_pow_right (by omega) h)
theorem xorS_lt {x m s : Nat} (hx : x < 2 ^ 20) (hm : m < 2 ^ 5) (hs : s ≤ 14) : x ^^^ (m <<< s) < 2 ^ 20 := by
  refine xor_lt hx ?_
  rw [Nat.shiftLeft_eq]
  have h2 : 2 ^ s ≤ 2 ^ 14 := Nat.pow_le_pow_right (by omega) hs
  calc m * 2 ^ s ≤ m * 2 ^ 14 := Nat.mul_le_mul_left _ h2
    _ < 2 ^ 20 := by omega
theorem restD_lt {m d a : Nat} (hm : m < 2 ^ 5) (hd : 1 ≤ d) (ha : a < 2 ^ 20) : ∀ k, restP m d a k < 2 ^ 20
  | 0 => ha
  | k + 1 => by
    have ih := restD_lt hm hd ha k
    rw [restP]; split
    · exact xorS_lt ih hm (by omega)
    · exact ih
theorem shl5_lt {m s : Nat} (hm : m < 2 ^ 5) (hs : s ≤ 14) : m <<< s < 1048576 := by
  rw [Nat.shiftLeft_eq]
  have h2 : 2 ^ s ≤ 2 ^ 14 := Nat.pow_le_pow_right (by omega) hs
  calc m * 2 ^ s ≤ m * 2 ^ 14 := Nat.mul_le_mul_left _ h2
    _ < 1048576 := by omega

def fieldAll (m n : Nat) : Bool := (List.range n).all fun i => restN (i + 2) (blen (i + 2) - 1) m != 0
theorem fieldAll_0 (m : Nat) : fieldAll m 0 = true := rfl
theorem fieldAll_s {m n : Nat} (h : fieldAll m n = true) (h2 : restN (n + 2) (blen (n + 2) - 1) m ≠ 0) : fieldAll m (n + 1) = true := by
  unfold fieldAll at *; rw [List.range_succ, List.all_append, h]; simpa using h2
theorem fieldAll_f {m n : Nat} (hn : n < 30) (h2 : restN (n + 2) (blen (n + 2) - 1) m = 0) : fieldAll m 30 = false := by
  unfold fieldAll; rw [Bool.eq_false_iff]; intro h; rw [List.all_eq_true] at h
  have := h n (List.mem_range.2 hn); simp [h2] at this
theorem blen_eq {x k : Nat} (h0 : 2 ^ k ≤ x) (h1 : x < 2 ^ (k + 1)) : blen x = k + 1 := by
  have h := blen_lt h1
  have : ¬ blen x ≤ k := fun h => by have := lt_of_blen h; omega
  omega

end Go.Abs
/- Fields: what the program and the reference reckon. -/
namespace Go.Proofs.YtenkjbkcdcionaaGreat
set_option linter.unusedSimpArgs false
set_option linter.unusedVariables false
set_option maxRecDepth 20000
set_option maxHeartbeats 1000000
open Go.Abs

def inR (n a b : Int) : Bool := decide (a ≤ n) && decide (n ≤ b)

theorem inS_ac (n a b : Int) (h : List Blk) : AC Tryz.prog 37 [.int .i64 n, .int .i64 a, .int .i64 b] h (.bool (inR n a b)) h := by
  cases h1 : decide (a ≤ n) <;>
  · (refine AC_begin (fun _ _ => Tryz.call37 _ _) Tryz.func37 rfl Tryz.ntmps37 Tryz.results37 (fun hwf => ?_); simp only [LCN, Nat.reduceAdd, Nat.reduceSub, List.replicate])
    (refine sN (And.intro @h1 (@yieldA_at 3 10)) ?_)
    (exact sR (And.intro @inR.eq_1 (And.intro @h1 (And.intro @Bool.true_and @Bool.false_and))))

theorem inI_ac (n a b : Int) (h : List Blk) : AC Tryz.prog 30 [.int .i64 n, .int .i64 a, .int .i64 b] h (.bool (inR n a b)) h := by
  cases h1 : decide (a ≤ n) <;>
  · (refine AC_begin (fun _ _ => Tryz.call30 _ _) Tryz.func30 rfl Tryz.ntmps30 Tryz.results30 (fun hwf => ?_); simp only [LCN, Nat.reduceAdd, Nat.reduceSub, List.replicate])
    (refine sN (And.intro @h1 (@yieldA_at 3 10)) ?_)
    (exact sR (And.intro @inR.eq_1 (And.intro @h1 (And.intro @Bool.true_and @Bool.false_and))))

theorem timesS_ac {m : Nat} (h0 : 256 ≤ m) (h1 : m < 512) (a b : UInt8) (h : List Blk) : AC Tryz.prog 109 [.int .i64 m, B a, B b] h (B (UInt8.ofNat (mulN m a.toNat b.toNat))) h := by
  have hb8 := u8_lt b
  have ha8 := u8_lt a
  (refine AC_begin (fun _ _ => Tryz.call109 _ _) Tryz.func109 rfl Tryz.ntmps109 Tryz.results109 (fun hwf => ?_); simp only [LCN, Nat.reduceAdd, Nat.reduceSub, List.replicate])
  (refine sN0 ?_)
  refine WA_forH (fun k => [(7, .int .i64 ((mulP m a.toNat b.toNat k : Nat))), (8, .int .i64 ((dblN m a.toNat k : Nat))), (9, .int .i64 ((b.toNat >>> k : Nat))), (14, J), (15, J), (16, J), (17, J), (18, J), (19, J), (20, J), (21, J), (22, J), (23, J), (24, J), (25, J), (26, J), (27, J), (28, J), (29, J), (30, J)]) (fun k => h) (blen b.toNat) ?_ ?_ ?_ <;> (try simp only [PTS])
  · (refine Drop_slots (by first | exact Nat.le_refl _ | simp) ?_; focus ((try simp only [JL_same, JL_J, JL_nil, Int.reduceAdd, Nat.sub_sub, ICS, Bool.false_eq_true, if_false, if_true, dblN, mulP, Nat.shiftRight_zero]); (try exact JL_refl _)))
  · intro k hk
    have hp := blen_pos hk
    have hs := Nat.shiftRight_le b.toNat k
    have hs' := Nat.shiftRight_le b.toNat (k + 1)
    have hm := mulP_lt h0 h1 (b := b.toNat) ha8 k
    have hd := dblN_lt h0 h1 ha8 k
    have hw := wrap_N (n := b.toNat >>> (k+1)) (Nat.lt_of_le_of_lt hs' (by omega))
    cases hb : b.toNat.testBit k <;> cases hc : decide (256 ≤ dblN m a.toNat k * 2)
    · (refine sN (And.intro @hb (And.intro @hc @hw)) ?_)
      (refine Drop_slots (by first | exact Nat.le_refl _ | simp) ?_; focus ((try simp only [JL_same, JL_J, JL_nil, Int.reduceAdd, Nat.sub_sub, ICS, Bool.false_eq_true, if_false, if_true, mulP_f hb, dblN_f (of_decide_eq_false hc)]); (try exact JL_refl _)))
    · (refine sN (And.intro @hb (And.intro @hc @hw)) ?_)
      (refine Drop_slots (by first | exact Nat.le_refl _ | simp) ?_; focus ((try simp only [JL_same, JL_J, JL_nil, Int.reduceAdd, Nat.sub_sub, ICS, Bool.false_eq_true, if_false, if_true, mulP_f hb, dblN_t (of_decide_eq_true hc)]); (try exact JL_refl _)))
    · (refine sN (And.intro @hb (And.intro @hc @hw)) ?_)
      (refine Drop_slots (by first | exact Nat.le_refl _ | simp) ?_; focus ((try simp only [JL_same, JL_J, JL_nil, Int.reduceAdd, Nat.sub_sub, ICS, Bool.false_eq_true, if_false, if_true, mulP_t hb, dblN_f (of_decide_eq_false hc)]); (try exact JL_refl _)))
    · (refine sN (And.intro @hb (And.intro @hc @hw)) ?_)
      (refine Drop_slots (by first | exact Nat.le_refl _ | simp) ?_; focus ((try simp only [JL_same, JL_J, JL_nil, Int.reduceAdd, Nat.sub_sub, ICS, Bool.false_eq_true, if_false, if_true, mulP_t hb, dblN_t (of_decide_eq_true hc)]); (try exact JL_refl _)))
  · (repeat (first | ((first | (refine And.intro ?_ ?_; focus exact PLA) | refine WA_seq (WA_region ?_) | refine WA_region ?_ | refine WA_exit ?_); try simp (maxSteps := 1000000) (disch := first | omega | rfl | decide | (simp only [LX] <;> omega)) only [go_sem, Nat.reduceAdd, Int.reduceAdd, Int.reduceSub, Int.reduceMul, BNS, blen_done, mulN_blen hb8]) | refine WA_seq ?_ | refine WA_block ?_ | (refine WA_skip ?_; try simp only [go_sem]) | (refine WA_ret ?_; try simp only [go_sem]) | refine WA_ct rfl ?_ | refine WA_cf rfl ?_))
    (exact sR0)

theorem rest8_ac {m : Nat} (h0 : 256 ≤ m) (h1 : m < 512) {a : Nat} (ha : a < 2 ^ 16) (h : List Blk) : AC Tryz.prog 94 [.int .i64 a, .int .i64 m, .int .i64 8] h (.int .i64 (restN m 8 a)) h := by
  (refine AC_begin (fun _ _ => Tryz.call94 _ _) Tryz.func94 rfl Tryz.ntmps94 Tryz.results94 (fun hwf => ?_); simp only [LCN, Nat.reduceAdd, Nat.reduceSub, List.replicate])
  (refine sN0 ?_)
  refine WA_forH (fun k => [(0, .int .i64 ((restP m 8 a k : Nat))), (7, .int .i64 (15 - k)), (8, J), (9, J), (10, J), (11, J), (12, J), (13, J), (14, J), (15, J), (16, J), (17, J), (18, J), (19, J), (20, J), (21, J), (22, J), (23, J), (24, J)]) (fun k => h) (8) ?_ ?_ ?_ <;> (try simp only [PTS])
  · (refine Drop_slots (by first | exact Nat.le_refl _ | simp) ?_; focus ((try simp only [JL_same, JL_J, JL_nil, Int.reduceAdd, Nat.sub_sub, ICS, Bool.false_eq_true, if_false, if_true, restP]); (try exact JL_refl _)))
  · intro k hk
    have hr : restP m 8 a k < 65536 := Nat.lt_of_lt_of_le (restP_lt h0 h1 ha k (by omega)) (show 2 ^ (16 - k) ≤ 2 ^ 16 from Nat.pow_le_pow_right (by omega) (by omega))
    have hs := Nat.shiftRight_le (restP m 8 a k) (15 - k)
    have hl : m <<< (15 - k - 8) < 65536 := by
      rw [Nat.shiftLeft_eq]
      have h2 : 2 ^ (15 - k - 8) ≤ 2 ^ 7 := Nat.pow_le_pow_right (by omega) (by omega)
      calc m * 2 ^ (15 - k - 8) ≤ m * 2 ^ 7 := Nat.mul_le_mul_left _ h2
        _ < 65536 := by omega
    cases hb : (restP m 8 a k).testBit (15 - k)
    · (refine sN @hb ?_)
      (exact sS (restP_f hb))
    · have hw := wrap_N (n := m <<< (15 - k - 8)) (by omega)
      have hy := bits_xor_N (a := restP m 8 a k) (b := m <<< (15 - k - 8)) (by omega) (by omega)
      (refine sN (And.intro @hb (And.intro @hw @hy)) ?_)
      (exact sS (restP_t hb))
  · (refine sN0 ?_)
    (exact sR @restN.eq_1)

theorem timesI_ac {m : Nat} (h0 : 256 ≤ m) (h1 : m < 512) (a b : UInt8) (h : List Blk) : AC Tryz.prog 98 [.int .i64 m, B a, B b] h (B (UInt8.ofNat (mulN m a.toNat b.toNat))) h := by
  have hb8 := u8_lt b
  have ha8 := u8_lt a
  (refine AC_begin (fun _ _ => Tryz.call98 _ _) Tryz.func98 rfl Tryz.ntmps98 Tryz.results98 (fun hwf => ?_); simp only [LCN, Nat.reduceAdd, Nat.reduceSub, List.replicate])
  (refine sN0 ?_)
  refine WA_forH (fun k => [(7, .int .i64 ((clP a.toNat b.toNat k : Nat))), (8, J), (9, .int .i64 k), (10, J), (11, J), (12, J), (13, J), (14, J), (15, J), (16, J), (17, J), (18, J), (19, J), (20, J), (21, J), (22, J), (23, J)]) (fun k => h) (8) ?_ ?_ ?_ <;> (try simp only [PTS])
  · (refine Drop_slots (by first | exact Nat.le_refl _ | simp) ?_; focus ((try simp only [JL_same, JL_J, JL_nil, Int.reduceAdd, Nat.sub_sub, ICS, Bool.false_eq_true, if_false, if_true, clP]); (try exact JL_refl _)))
  · intro k hk
    have hr := clP_lt ha8 (b := b.toNat) k (by omega)
    have hl : a.toNat <<< k < 65536 := by
      rw [Nat.shiftLeft_eq]
      have h2 : 2 ^ k ≤ 2 ^ 8 := Nat.pow_le_pow_right (by omega) (by omega)
      calc a.toNat * 2 ^ k ≤ a.toNat * 2 ^ 8 := Nat.mul_le_mul_left _ h2
        _ < 65536 := by omega
    cases hb : b.toNat.testBit k
    · (refine sN (And.intro @hb @bit_B) ?_)
      (refine Drop_slots (by first | exact Nat.le_refl _ | simp) ?_; focus ((try simp only [JL_same, JL_J, JL_nil, Int.reduceAdd, Nat.sub_sub, ICS, Bool.false_eq_true, if_false, if_true, clP_f hb]); (try exact JL_refl _)))
    · have hw := wrap_N (n := a.toNat <<< k) (by omega)
      have hy := bits_xor_N (a := clP a.toNat b.toNat k) (b := a.toNat <<< k) (by omega) (by omega)
      (refine sN (And.intro @hb (And.intro @bit_B (And.intro @hw @hy))) ?_)
      (refine Drop_slots (by first | exact Nat.le_refl _ | simp) ?_; focus ((try simp only [JL_same, JL_J, JL_nil, Int.reduceAdd, Nat.sub_sub, ICS, Bool.false_eq_true, if_false, if_true, clP_t hb]); (try exact JL_refl _)))
  · have hc := clP_lt ha8 (b := b.toNat) 8 (by omega)
    (refine sW0 (rest8_ac h0 h1 (a := clP a.toNat b.toNat 8) (by omega)) ?_)
    ((first | refine ret_nA ?_ | refine ret_sA ?_ | refine ret_fA ?_); simp (maxSteps := 1000000) (disch := first | omega | rfl | decide | (simp only [LX] <;> omega)) only [go_sem, Nat.reduceAdd, Int.reduceAdd, Int.reduceSub, Int.reduceMul, BNS, restN, mulN_cl h0 h1 ha8]; try rfl)

theorem length_ac {n : Nat} (hn : n < 9223372036854775808) (h : List Blk) : AC Tryz.prog 110 [.int .i64 n] h (.int .i64 (blen n)) h := by
  (refine AC_begin (fun _ _ => Tryz.call110 _ _) Tryz.func110 rfl Tryz.ntmps110 Tryz.results110 (fun hwf => ?_); simp only [LCN, Nat.reduceAdd, Nat.reduceSub, List.replicate])
  (refine sN0 ?_)
  refine WA_forH (fun k => [(0, .int .i64 ((n >>> k : Nat))), (3, .int .i64 k), (4, J), (5, J), (6, J), (7, J), (8, J), (9, J)]) (fun k => h) (blen n) ?_ ?_ ?_ <;> (try simp only [PTS])
  · (exact sS @Nat.shiftRight_zero)
  · intro k hk
    have hp := blen_pos hk
    have hs := Nat.shiftRight_le n k
    have hs' := Nat.shiftRight_le n (k + 1)
    have hb := blen_lt (k := 63) (n := n) (by omega)
    have hw := wrap_N (n := n >>> (k+1)) (Nat.lt_of_le_of_lt hs' (by omega))
    (refine sN @hw ?_)
    (exact sS0)
  · (refine sN @blen_done ?_)
    (exact sR0)

theorem restS_ac {m d : Nat} (h0 : 256 ≤ m) (h1 : m < 512) (h2 : 2 ≤ d) (h3 : d < 32) (h : List Blk) : AC Tryz.prog 92 [.int .i64 m, .int .i64 d] h (.int .i64 (restN d (blen d - 1) m)) h := by
  have hbm : blen m ≤ 9 := blen_lt (by omega)
  have hend := divC_end (b := d) (by omega) 16 m (by omega)
  (refine AC_begin (fun _ _ => Tryz.call92 _ _) Tryz.func92 rfl Tryz.ntmps92 Tryz.results92 (fun hwf => ?_); simp only [LCN, Nat.reduceAdd, Nat.reduceSub, List.replicate])
  (refine sW0 (And.intro (length_ac (n := d) (by omega)) (length_ac (n := m) (by omega))) ?_)
  refine WA_forH (fun k => [(0, .int .i64 ((divS d m k : Nat))), (6, .int .i64 ((blen (divS d m k) : Nat))), (11, J), (12, J), (13, J), (14, J), (15, J), (16, J), (17, J), (18, J), (19, J), (20, J), (21, J), (22, J), (23, J)]) (fun k => h) (divC d 16 m) ?_ ?_ ?_ <;> (try simp only [PTS])
  · (refine Drop_slots (by first | exact Nat.le_refl _ | simp) ?_; focus ((try simp only [JL_same, JL_J, JL_nil, Int.reduceAdd, Nat.sub_sub, ICS, Bool.false_eq_true, if_false, if_true, divS]); (try exact JL_refl _)))
  · intro k hk
    have hg := divC_go _ _ _ hk
    have hl := divS_lt (b := d) (by omega) (f := 16) (a := m) k (by omega)
    have hl' := divS_lt (b := d) (by omega) (f := 16) (a := m) (k + 1) (by omega)
    have hx : divS d m k < 2 ^ 9 := lt_of_blen (by omega)
    have hx' : divS d m (k + 1) < 2 ^ 9 := lt_of_blen (by omega)
    have hs := shl5_lt (m := d) (s := blen (divS d m k) - blen d) (by omega) (by omega)
    have hw := wrap_N (n := d <<< (blen (divS d m k) - blen d)) (by omega)
    have hy := bits_xor_N (a := divS d m k) (b := d <<< (blen (divS d m k) - blen d)) (by omega) (by omega)
    have he : divS d m k ^^^ d <<< (blen (divS d m k) - blen d) = divS d m (k + 1) := rfl
    (refine sW (And.intro @hw (And.intro @hy @he)) (length_ac (n := divS d m (k + 1)) (by omega)) ?_)
    (exact sS0)
  · have hn : decide (blen d ≤ blen (divS d m (divC d 16 m))) = false := decide_eq_false (by omega)
    (refine sN @hn ?_)
    ((first | refine ret_nA ?_ | refine ret_sA ?_ | refine ret_fA ?_); simp (maxSteps := 1000000) (disch := first | omega | rfl | decide | (simp only [LX] <;> omega)) only [go_sem, Nat.reduceAdd, Int.reduceAdd, Int.reduceSub, Int.reduceMul, BNS, hend.2, ← div_rest h0 h1 h2 h3, divN]; try rfl)

theorem restI_ac {m d g : Nat} (h1 : m < 512) (h3 : d < 2 ^ 5) (hg : 1 ≤ g) (hg4 : g ≤ 4) (h : List Blk) : AC Tryz.prog 94 [.int .i64 m, .int .i64 d, .int .i64 g] h (.int .i64 (restN d g m)) h := by
  (refine AC_begin (fun _ _ => Tryz.call94 _ _) Tryz.func94 rfl Tryz.ntmps94 Tryz.results94 (fun hwf => ?_); simp only [LCN, Nat.reduceAdd, Nat.reduceSub, List.replicate])
  (refine sN0 ?_)
  refine WA_forH (fun k => [(0, .int .i64 ((restP d g m k : Nat))), (7, .int .i64 (15 - k)), (8, J), (9, J), (10, J), (11, J), (12, J), (13, J), (14, J), (15, J), (16, J), (17, J), (18, J), (19, J), (20, J), (21, J), (22, J), (23, J), (24, J)]) (fun k => h) (16 - g) ?_ ?_ ?_ <;> (try simp only [PTS])
  · (refine Drop_slots (by first | exact Nat.le_refl _ | simp) ?_; focus ((try simp only [JL_same, JL_J, JL_nil, Int.reduceAdd, Nat.sub_sub, ICS, Bool.false_eq_true, if_false, if_true, restP]); (try exact JL_refl _)))
  · intro k hk
    have hr := restD_lt h3 hg (a := m) (by omega) k
    have hs := Nat.shiftRight_le (restP d g m k) (15 - k)
    have hl := shl5_lt (m := d) (s := 15 - k - g) h3 (by omega)
    cases hb : (restP d g m k).testBit (15 - k)
    · (refine sN @hb ?_)
      (exact sS (restP_f hb))
    · have hw := wrap_N (n := d <<< (15 - k - g)) (by omega)
      have hy := bits_xor_N (a := restP d g m k) (b := d <<< (15 - k - g)) (by omega) (by omega)
      (refine sN (And.intro @hb (And.intro @hw @hy)) ?_)
      (exact sS (restP_t hb))
  · have hn : decide (g ≤ 15 - (16 - g)) = false := decide_eq_false (by omega)
    (refine sN @hn ?_)
    (exact sR @restN.eq_1)

end Go.Proofs.YtenkjbkcdcionaaGreat
/- Which moduli are fields. -/
namespace Go.Proofs.YtenkjbkcdcionaaGreat
set_option linter.unusedSimpArgs false
set_option linter.unusedVariables false
set_option maxRecDepth 20000
set_option maxHeartbeats 1000000
open Go.Abs

theorem inR_nat {m : Int} (hr : inR m 256 511 = true) : ∃ n : Nat, m = n ∧ 256 ≤ n ∧ n < 512 := by
  unfold inR at hr
  rw [Bool.and_eq_true, decide_eq_true_eq, decide_eq_true_eq] at hr
  exact ⟨m.toNat, by omega, by omega, by omega⟩
theorem fieldB_in {m : Int} (hr : inR m 256 511 = false) : fieldB m.toNat = false := by
  unfold inR at hr
  unfold fieldB
  rw [Bool.and_eq_false_iff, decide_eq_false_iff_not, decide_eq_false_iff_not] at hr
  have : (decide (256 ≤ m.toNat) && decide (m.toNat < 512)) = false := by
    rw [Bool.and_eq_false_iff, decide_eq_false_iff_not, decide_eq_false_iff_not]; omega
  rw [this]; rfl
theorem fieldB_eq {n : Nat} (h0 : 256 ≤ n) (h1 : n < 512) : fieldB n = fieldAll n 30 := by
  unfold fieldB fieldAll; simp [h0, h1]
theorem blen_two (k : Nat) : 1 ≤ blen (k + 2) - 1 := by
  have : ¬ blen (k + 2) ≤ 1 := fun h => by have := lt_of_blen h; omega
  omega
theorem restN_lt5 {m d g : Nat} (h1 : m < 512) (h3 : d < 2 ^ 5) (hg : 1 ≤ g) : restN d g m < 1048576 := restD_lt h3 hg (by omega) _

theorem fieldS_ac (m : Int) (h : List Blk) : AC Tryz.prog 57 [.int .i64 m] h (.bool (fieldB m.toNat)) h := by
  cases hr : inR m 256 511
  · (refine AC_begin (fun _ _ => Tryz.call57 _ _) Tryz.func57 rfl Tryz.ntmps57 Tryz.results57 (fun hwf => ?_); simp only [LCN, Nat.reduceAdd, Nat.reduceSub, List.replicate])
    (refine sW @hr (inS_ac m 256 511) ?_)
    (exact sR (fieldB_in hr))
  · obtain ⟨n, rfl, h0, h1⟩ := inR_nat hr
    (refine AC_begin (fun _ _ => Tryz.call57 _ _) Tryz.func57 rfl Tryz.ntmps57 Tryz.results57 (fun hwf => ?_); simp only [LCN, Nat.reduceAdd, Nat.reduceSub, List.replicate])
    (refine sW @hr (inS_ac n 256 511) ?_)
    refine WA_forHJ (fun k => fieldAll n k = true) (fun k => [(2, J), (3, .int .i64 (k + 2)), (7, J), (8, J), (9, J), (10, J), (11, J), (12, J), (13, J), (14, J)]) (fun k => h) (30) ?_ ?_ ?_ ?_ <;> (try simp only [PTS])
    · exact fieldAll_0 n
    · (exact sS0)
    · intro k hk hJ
      have hlt := restN_lt5 (m := n) (d := k + 2) (g := blen (k + 2) - 1) h1 (by omega) (blen_two k)
      cases hz : restN (k + 2) (blen (k + 2) - 1) n == 0
      · (refine sW @hz (restS_ac h0 h1 (d := k + 2) (by omega) (by omega)) ?_)
        refine ⟨fieldAll_s hJ (by simpa using hz), ?_⟩
        (exact sS @Int.add_assoc)
      · (refine sW @hz (restS_ac h0 h1 (d := k + 2) (by omega) (by omega)) ?_)
        (exact sR (And.intro (fieldB_eq h0 h1) (fieldAll_f hk (by simpa using hz))))
    · intro hJ
      (refine sN0 ?_)
      (exact sR (And.intro (fieldB_eq h0 h1) @hJ))

theorem isField_ac (m : Int) (h : List Blk) : AC Tryz.prog 63 [.int .i64 m] h (.bool (fieldB m.toNat)) h := by
  cases hr : inR m 256 511
  · (refine AC_begin (fun _ _ => Tryz.call63 _ _) Tryz.func63 rfl Tryz.ntmps63 Tryz.results63 (fun hwf => ?_); simp only [LCN, Nat.reduceAdd, Nat.reduceSub, List.replicate])
    (refine sW @hr (inI_ac m 256 511) ?_)
    (exact sR (fieldB_in hr))
  · obtain ⟨n, rfl, h0, h1⟩ := inR_nat hr
    (refine AC_begin (fun _ _ => Tryz.call63 _ _) Tryz.func63 rfl Tryz.ntmps63 Tryz.results63 (fun hwf => ?_); simp only [LCN, Nat.reduceAdd, Nat.reduceSub, List.replicate])
    (refine sW @hr (inI_ac n 256 511) ?_)
    refine WA_forHJ (fun k => fieldAll n (2 ^ (k + 1) - 2) = true) (fun k => [(2, J), (3, .int .i64 (k + 1)), (4, J), (8, J), (9, J), (10, J), (11, J), (12, J), (13, J), (14, J), (15, J), (16, J), (17, J), (18, J), (19, J), (20, J), (21, J), (22, J), (23, J), (24, J)]) (fun k => h) (4) ?_ ?_ ?_ ?_ <;> (try simp only [PTS])
    · exact fieldAll_0 n
    · (exact sS0)
    · intro k hk hJ
      have hp : 2 ≤ 2 ^ (k + 1) := Nat.le_trans (by omega) (Nat.pow_le_pow_right (n := 2) (by omega) (show 1 ≤ k + 1 by omega))
      have hp' : 2 ^ (k + 1) ≤ 2 ^ 4 := Nat.pow_le_pow_right (n := 2) (by omega) (by omega)
      have e1 : 1 <<< (k + 1) = 2 ^ (k + 1) := by rw [Nat.shiftLeft_eq, Nat.one_mul]
      have e2 : 2 <<< (k + 1) = 2 * 2 ^ (k + 1) := by rw [Nat.shiftLeft_eq]
      have s1 : (1 : Int) * 2 ^ min (k + 1) 64 = ((2 ^ (k + 1) : Nat) : Int) := by rw [← e1, ← shl_64 (by omega)]; rfl
      have s2 : (2 : Int) * 2 ^ min (k + 1) 64 = ((2 * 2 ^ (k + 1) : Nat) : Int) := by rw [← e2, ← shl_64 (by omega)]; rfl
      have h4 : 2 ^ (k + 1 + 1) = 2 * 2 ^ (k + 1) := by rw [Nat.pow_succ, Nat.mul_comm]
      rw [h4]
      have hbl : ∀ i, i < 2 ^ (k + 1) → blen (2 ^ (k + 1) + i) - 1 = k + 1 := fun i hi => by rw [blen_eq (k := k + 1) (by omega) (by omega)]; omega
      generalize hq : 2 ^ (k + 1) = q at *
      clear hq
      (refine sN (And.intro @s1 @s2) ?_)
      refine WA_forHJ (fun k => fieldAll n (q - 2 + k) = true) (fun k => [(2, J), (4, .int .i64 (q + k)), (14, J), (15, J), (16, J), (17, J), (18, J), (19, J), (20, J), (21, J), (22, J), (23, J), (24, J)]) (fun k => h) (q) ?_ ?_ ?_ ?_ <;> (try simp only [PTS])
      · exact hJ
      · (exact sS0)
      · intro j hj hJ
        have hlt := restN_lt5 (m := n) (d := q + j) (g := k + 1) h1 (by omega) (by omega)
        cases hz : restN (q + j) (k + 1) n == 0
        · (refine sW (And.intro @hz (And.intro @s1 @s2)) (restI_ac h1 (d := q + j) (g := k + 1) (by omega) (by omega) (by omega)) ?_)
          refine ⟨fieldAll_s hJ ?_, ?_⟩
          · show restN (q - 2 + j + 2) (blen (q - 2 + j + 2) - 1) n ≠ 0
            rw [show q - 2 + j + 2 = q + j by omega, hbl j hj]; simpa using hz
          · (exact sS @Int.add_assoc)
        · (refine sW (And.intro @hz (And.intro @s1 @s2)) (restI_ac h1 (d := q + j) (g := k + 1) (by omega) (by omega) (by omega)) ?_)
          have hf : restN (q - 2 + j + 2) (blen (q - 2 + j + 2) - 1) n = 0 := by
            rw [show q - 2 + j + 2 = q + j by omega, hbl j hj]; simpa using hz
          have hf2 := fieldAll_f (n := q - 2 + j) (by omega) hf
          (exact sR (And.intro (fieldB_eq h0 h1) @hf2))
      · intro hJ
        have : decide (q + q < 2 * q) = false := decide_eq_false (by omega)
        (refine sN (And.intro @s1 (And.intro @s2 @this)) ?_)
        refine ⟨?_, ?_⟩
        · rw [show 2 * q - 2 = q - 2 + q by omega]; exact hJ
        · (exact sS @Int.add_assoc)
    · intro hJ
      (refine sN0 ?_)
      (exact sR (And.intro (fieldB_eq h0 h1) @hJ))

end Go.Proofs.YtenkjbkcdcionaaGreat
/- Powers, inverses, mixing a block. -/
namespace Go.Proofs.YtenkjbkcdcionaaGreat
set_option linter.unusedSimpArgs false
set_option linter.unusedVariables false
set_option maxRecDepth 20000
set_option maxHeartbeats 1000000
open Go.Abs

def tm (m : Nat) (a b : UInt8) : UInt8 := UInt8.ofNat (mulN m a.toNat b.toNat)
def sqP (m : Nat) (a : UInt8) : Nat → UInt8
  | 0 => a
  | i + 1 => tm m (sqP m a i) (sqP m a i)
def poP (m : Nat) (a : UInt8) (e : Nat) : Nat → UInt8
  | 0 => 1
  | i + 1 => if e.testBit i then tm m (poP m a e i) (sqP m a i) else poP m a e i
def po (m : Nat) (a : UInt8) (e : Nat) : UInt8 := poP m a e (blen e)
def inv (m : Nat) (a : UInt8) : UInt8 := po m a 254
theorem poP_t {m : Nat} {a : UInt8} {e i : Nat} (h : e.testBit i = true) : poP m a e (i + 1) = tm m (poP m a e i) (sqP m a i) := by rw [poP, if_pos h]
theorem poP_f {m : Nat} {a : UInt8} {e i : Nat} (h : e.testBit i = false) : poP m a e (i + 1) = poP m a e i := by rw [poP, h]; rfl

theorem tmS_ac {m : Nat} (h0 : 256 ≤ m) (h1 : m < 512) (a b : UInt8) (h : List Blk) : AC Tryz.prog 109 [.int .i64 m, B a, B b] h (B (tm m a b)) h := timesS_ac h0 h1 a b h
theorem tmI_ac {m : Nat} (h0 : 256 ≤ m) (h1 : m < 512) (a b : UInt8) (h : List Blk) : AC Tryz.prog 98 [.int .i64 m, B a, B b] h (B (tm m a b)) h := timesI_ac h0 h1 a b h
theorem poS_ac {m : Nat} (h0 : 256 ≤ m) (h1 : m < 512) (a : UInt8) {e : Nat} (he : e < 9223372036854775808) (h : List Blk) : AC Tryz.prog 124 [.int .i64 m, B a, .int .i64 e] h (B (po m a e)) h := by
  (refine AC_begin (fun _ _ => Tryz.call124 _ _) Tryz.func124 rfl Tryz.ntmps124 Tryz.results124 (fun hwf => ?_); simp only [LCN, Nat.reduceAdd, Nat.reduceSub, List.replicate])
  (refine sN0 ?_)
  refine WA_forH (fun k => [(1, B (sqP m a k)), (2, .int .i64 ((e >>> k : Nat))), (7, B (poP m a e k)), (8, J), (9, J), (10, J), (11, J), (12, J), (13, J), (14, J), (15, J), (16, J), (17, J), (18, J), (19, J), (20, J), (21, J), (22, J)]) (fun k => h) (blen e) ?_ ?_ ?_ <;> (try simp only [PTS])
  · (refine Drop_slots (by first | exact Nat.le_refl _ | simp) ?_; focus ((try simp only [JL_same, JL_J, JL_nil, Int.reduceAdd, Nat.sub_sub, ICS, Bool.false_eq_true, if_false, if_true, sqP, poP, Nat.shiftRight_zero]); (try exact JL_refl _)))
  · intro k hk
    have hp := blen_pos hk
    have hs := Nat.shiftRight_le e k
    have hw := wrap_N (n := e >>> (k+1)) (Nat.lt_of_le_of_lt (Nat.shiftRight_le e (k + 1)) he)
    cases hb : e.testBit k
    · (refine sW (And.intro @hb @hw) (tmS_ac h0 h1) ?_)
      (refine Drop_slots (by first | exact Nat.le_refl _ | simp) ?_; focus ((try simp only [JL_same, JL_J, JL_nil, Int.reduceAdd, Nat.sub_sub, ICS, Bool.false_eq_true, if_false, if_true, poP_f hb, sqP]); (try exact JL_refl _)))
    · (refine sW (And.intro @hb @hw) (tmS_ac h0 h1) ?_)
      (refine Drop_slots (by first | exact Nat.le_refl _ | simp) ?_; focus ((try simp only [JL_same, JL_J, JL_nil, Int.reduceAdd, Nat.sub_sub, ICS, Bool.false_eq_true, if_false, if_true, poP_t hb, sqP]); (try exact JL_refl _)))
  · (refine sN @blen_done ?_)
    (exact sR @po.eq_1)

theorem poI_ac {m : Nat} (h0 : 256 ≤ m) (h1 : m < 512) (a : UInt8) {e : Nat} (he : e < 9223372036854775808) (h : List Blk) : AC Tryz.prog 115 [.int .i64 m, B a, .int .i64 e] h (B (po m a e)) h := by
  (refine AC_begin (fun _ _ => Tryz.call115 _ _) Tryz.func115 rfl Tryz.ntmps115 Tryz.results115 (fun hwf => ?_); simp only [LCN, Nat.reduceAdd, Nat.reduceSub, List.replicate])
  (refine sN0 ?_)
  refine WA_forH (fun k => [(1, B (sqP m a k)), (2, .int .i64 ((e >>> k : Nat))), (7, B (poP m a e k)), (8, J), (9, J), (10, J), (11, J), (12, J), (13, J), (14, J), (15, J), (16, J), (17, J), (18, J), (19, J), (20, J), (21, J), (22, J)]) (fun k => h) (blen e) ?_ ?_ ?_ <;> (try simp only [PTS])
  · (refine Drop_slots (by first | exact Nat.le_refl _ | simp) ?_; focus ((try simp only [JL_same, JL_J, JL_nil, Int.reduceAdd, Nat.sub_sub, ICS, Bool.false_eq_true, if_false, if_true, sqP, poP, Nat.shiftRight_zero]); (try exact JL_refl _)))
  · intro k hk
    have hp := blen_pos hk
    have hs := Nat.shiftRight_le e k
    have hw := wrap_N (n := e >>> (k+1)) (Nat.lt_of_le_of_lt (Nat.shiftRight_le e (k + 1)) he)
    cases hb : e.testBit k
    · (refine sW (And.intro @hb @hw) (tmI_ac h0 h1) ?_)
      (refine Drop_slots (by first | exact Nat.le_refl _ | simp) ?_; focus ((try simp only [JL_same, JL_J, JL_nil, Int.reduceAdd, Nat.sub_sub, ICS, Bool.false_eq_true, if_false, if_true, poP_f hb, sqP]); (try exact JL_refl _)))
    · (refine sW (And.intro @hb @hw) (tmI_ac h0 h1) ?_)
      (refine Drop_slots (by first | exact Nat.le_refl _ | simp) ?_; focus ((try simp only [JL_same, JL_J, JL_nil, Int.reduceAdd, Nat.sub_sub, ICS, Bool.false_eq_true, if_false, if_true, poP_t hb, sqP]); (try exact JL_refl _)))
  · (refine sN @blen_done ?_)
    (exact sR @po.eq_1)

theorem invS_ac {m : Nat} (h0 : 256 ≤ m) (h1 : m < 512) (a : UInt8) (h : List Blk) : AC Tryz.prog 112 [.int .i64 m, B a] h (B (inv m a)) h := by
  (refine AC_begin (fun _ _ => Tryz.call112 _ _) Tryz.func112 rfl Tryz.ntmps112 Tryz.results112 (fun hwf => ?_); simp only [LCN, Nat.reduceAdd, Nat.reduceSub, List.replicate])
  have hp : AC Tryz.prog 124 [.int .i64 m, B a, .int .i64 254] h (B (po m a 254)) h := poS_ac h0 h1 a (e := 254) (by omega) h
  (refine sW0 @hp ?_)
  (exact sR @inv.eq_1)

theorem invI_ac {m : Nat} (h0 : 256 ≤ m) (h1 : m < 512) (a : UInt8) (h : List Blk) : AC Tryz.prog 99 [.int .i64 m, B a] h (B (inv m a)) h := by
  (refine AC_begin (fun _ _ => Tryz.call99 _ _) Tryz.func99 rfl Tryz.ntmps99 Tryz.results99 (fun hwf => ?_); simp only [LCN, Nat.reduceAdd, Nat.reduceSub, List.replicate])
  have hp : AC Tryz.prog 115 [.int .i64 m, B a, .int .i64 254] h (B (po m a 254)) h := poI_ac h0 h1 a (e := 254) (by omega) h
  (refine sW0 @hp ?_)
  (exact sR @inv.eq_1)

def mxP (m : Nat) (a b : Nat → UInt8) (c i : Nat) : Nat → UInt8
  | 0 => 0
  | k + 1 => mxP m a b c i k ^^^ tm m (a (i * 4 + k)) (b (4 * c + k))
def mixF (m : Nat) (a b : Nat → UInt8) : Nat → UInt8 := fun n => mxP m a b (n / 4) (n % 4) 4
def doneF (g : Nat → UInt8) (n : Nat) (x : UInt8) : Nat → UInt8 := fun i => if i < n then g i else if i = n then x else 0
theorem doneF_start (g : Nat → UInt8) : doneF g 0 0 = fun _ => 0 := by funext i; simp [doneF]
theorem doneF_set (g : Nat → UInt8) (n : Nat) (x y : UInt8) : upd (doneF g n x) n y = doneF g n y := by
  funext i; unfold upd doneF; by_cases h : i = n
  · subst h; simp
  · simp [h]
theorem doneF_at (g : Nat → UInt8) (n : Nat) (x : UInt8) : doneF g n x n = x := by simp [doneF]
theorem doneF_next {g : Nat → UInt8} {n : Nat} {x : UInt8} (h : g n = x) : doneF g n x = doneF g (n + 1) 0 := by
  funext i; unfold doneF; by_cases h1 : i < n
  · rw [if_pos h1, if_pos (by omega)]
  · by_cases h2 : i = n
    · subst h2; rw [if_neg h1, if_pos rfl, if_pos (by omega), h]
    · rw [if_neg h1, if_neg h2, if_neg (by omega)]; simp
theorem doneF_all (g : Nat → UInt8) (n : Nat) (x : UInt8) : Bs n (doneF g n x) = Bs n g := Bs_congr fun i hi => by simp [doneF, hi]

theorem mixS_ac {m : Nat} (h0 : 256 ≤ m) (h1 : m < 512) (a b : Nat → UInt8) (h : List Blk) : AC Tryz.prog 91 [.int .i64 m, .agg (Bs 16 a).toArray, .agg (Bs 16 b).toArray] h (.agg (Bs 16 (mixF m a b)).toArray) h := by
  (refine AC_begin (fun _ _ => Tryz.call91 _ _) Tryz.func91 rfl Tryz.ntmps91 Tryz.results91 (fun hwf => ?_); simp only [LCN, Nat.reduceAdd, Nat.reduceSub, List.replicate])
  (repeat (first | ((first | (refine And.intro ?_ ?_; focus exact PLA) | refine WA_seq (WA_region ?_) | refine WA_region ?_ | refine WA_exit ?_); try simp (maxSteps := 1000000) (disch := first | omega | rfl | decide | (simp only [LX] <;> omega)) only [go_sem, Nat.reduceAdd, Int.reduceAdd, Int.reduceSub, Int.reduceMul, BNS]) | (refine (WA_rb (id := 11) [25] (SubM.refl _) mixedOk ?_); simp only [LSZ]; (repeat (first | ((first | (refine And.intro ?_ ?_; focus exact PLA) | refine RTk false [0, 1, 2, 3, 4, 5, 6, 7, 8, 10, 11, 12, 13, 14, 16, 17, 18, 19, 20] 7 ?_ | refine RTk true [9, 15, 21, 22] 3 ?_ | refine RTk false [23, 24] 1 ?_ | refine REx 25 ?_ | refine RB_done (by decide +kernel) ?_); try simp (maxSteps := 1000000) (disch := first | omega | rfl | decide | (simp only [LX] <;> omega)) only [go_sem, Nat.reduceAdd, Int.reduceAdd, Int.reduceSub, Int.reduceMul, BNS])))) | refine WA_seq ?_ | refine WA_block ?_ | (refine WA_skip ?_; try simp only [go_sem]) | (refine WA_ret ?_; try simp only [go_sem]) | refine WA_ct rfl ?_ | refine WA_cf rfl ?_))
  refine WA_forP (fun k => [(8, .int .i64 k), (9, J), (10, J), (12, J), (13, J), (14, J), (15, J), (16, J), (17, J), (18, J), (19, J), (20, J), (21, J), (22, J), (23, J), (24, J), (25, J), (26, J), (27, J), (28, J), (29, J), (30, J), (31, J), (32, J), (33, J), (34, J), (35, J), (36, J), (37, J), (38, J), (39, J), (40, J), (41, J), (42, J), (43, J), (44, J), (45, J), (46, J), (47, J), (48, J)]) (fun k => [(3, ⟨Bs 16 (doneF (mixF m a b) (4 * k) 0), true⟩)]) (4) ?_ ?_ ?_ <;> (try simp only [PTS])
  · (exact sS (And.intro @doneF_start @Nat.mul_zero))
  · intro c hc
    (repeat (first | ((first | (refine And.intro ?_ ?_; focus exact PLA) | refine WA_seq (WA_region ?_) | refine WA_region ?_ | refine WA_exit ?_); try simp (maxSteps := 1000000) (disch := first | omega | rfl | decide | (simp only [LX] <;> omega)) only [go_sem, Nat.reduceAdd, Int.reduceAdd, Int.reduceSub, Int.reduceMul, BNS]) | (refine (WA_rb (id := 11) [25] (SubM.refl _) mixedOk ?_); simp only [LSZ]; (repeat (first | ((first | (refine And.intro ?_ ?_; focus exact PLA) | refine RTk false [0, 1, 2, 3, 4, 5, 6, 7, 8, 10, 11, 12, 13, 14, 16, 17, 18, 19, 20] 7 ?_ | refine RTk true [9, 15, 21, 22] 3 ?_ | refine RTk false [23, 24] 1 ?_ | refine REx 25 ?_ | refine RB_done (by decide +kernel) ?_); try simp (maxSteps := 1000000) (disch := first | omega | rfl | decide | (simp only [LX] <;> omega)) only [go_sem, Nat.reduceAdd, Int.reduceAdd, Int.reduceSub, Int.reduceMul, BNS])))) | refine WA_seq ?_ | refine WA_block ?_ | (refine WA_skip ?_; try simp only [go_sem]) | (refine WA_ret ?_; try simp only [go_sem]) | refine WA_ct rfl ?_ | refine WA_cf rfl ?_))
    refine WA_forP (fun k => [(8, .int .i64 (c)), (9, .int .i64 k), (10, J), (16, J), (17, J), (18, J), (19, J), (20, J), (21, J), (22, J), (23, J), (24, J), (25, J), (26, J), (27, J), (28, J), (29, J), (30, J), (31, J), (32, J), (33, J), (34, J), (35, J), (36, J), (37, J), (38, J), (39, J), (40, J), (41, J), (42, J), (43, J), (44, J), (45, J), (46, J), (47, J), (48, J)]) (fun k => [(3, ⟨Bs 16 (doneF (mixF m a b) (4 * c + k) 0), true⟩)]) (4) ?_ ?_ ?_ <;> (try simp only [PTS])
    · (exact sS0)
    · intro i hi
      (repeat (first | ((first | (refine And.intro ?_ ?_; focus exact PLA) | refine WA_seq (WA_region ?_) | refine WA_region ?_ | refine WA_exit ?_); try simp (maxSteps := 1000000) (disch := first | omega | rfl | decide | (simp only [LX] <;> omega)) only [go_sem, Nat.reduceAdd, Int.reduceAdd, Int.reduceSub, Int.reduceMul, BNS]) | (refine (WA_rb (id := 11) [25] (SubM.refl _) mixedOk ?_); simp only [LSZ]; (repeat (first | ((first | (refine And.intro ?_ ?_; focus exact PLA) | refine RTk false [0, 1, 2, 3, 4, 5, 6, 7, 8, 10, 11, 12, 13, 14, 16, 17, 18, 19, 20] 7 ?_ | refine RTk true [9, 15, 21, 22] 3 ?_ | refine RTk false [23, 24] 1 ?_ | refine REx 25 ?_ | refine RB_done (by decide +kernel) ?_); try simp (maxSteps := 1000000) (disch := first | omega | rfl | decide | (simp only [LX] <;> omega)) only [go_sem, Nat.reduceAdd, Int.reduceAdd, Int.reduceSub, Int.reduceMul, BNS])))) | refine WA_seq ?_ | refine WA_block ?_ | (refine WA_skip ?_; try simp only [go_sem]) | (refine WA_ret ?_; try simp only [go_sem]) | refine WA_ct rfl ?_ | refine WA_cf rfl ?_))
      refine WA_forP (fun k => [(8, .int .i64 (c)), (9, .int .i64 (i)), (10, .int .i64 k), (20, J), (21, J), (22, J), (23, J), (24, J), (25, J), (26, J), (27, J), (28, J), (29, J), (30, J), (31, J), (32, J), (33, J), (34, J), (35, J), (36, J), (37, J), (38, J), (39, J), (40, J), (41, J), (42, J), (43, J), (44, J), (45, J), (46, J), (47, J), (48, J)]) (fun k => [(3, ⟨Bs 16 (doneF (mixF m a b) (4 * c + i) (mxP m a b c i k)), true⟩)]) (4) ?_ ?_ ?_ <;> (try simp only [PTS])
      · (refine Drop_slots (by first | exact Nat.le_refl _ | simp) ?_; focus ((try simp only [JL_same, JL_J, JL_nil, Int.reduceAdd, Nat.sub_sub, ICS, Bool.false_eq_true, if_false, if_true, mxP]); (try exact JL_refl _)))
      · intro j hj
        (repeat (first | ((first | (refine And.intro ?_ ?_; focus exact PLA) | ((first | with_reducible apply callB_i | with_reducible apply callK_intro | with_reducible apply callQ_i); (focus (first | assumption | (with_reducible apply tmS_ac h0 h1 <;> (first | assumption | rfl | (simp (disch := omega) only [go_sem]; first | done | rfl) | omega | decide | (simp; done))))); (try exact WP_au)) | refine WA_seq (WA_region ?_) | refine WA_region ?_ | refine WA_exit ?_); try simp (maxSteps := 1000000) (disch := first | omega | rfl | decide | (simp only [LX] <;> omega)) only [go_sem, Nat.reduceAdd, Int.reduceAdd, Int.reduceSub, Int.reduceMul, BNS, doneF_at, doneF_set]) | (refine (WA_rb (id := 11) [25] (SubM.refl _) mixedOk ?_); simp only [LSZ]; (repeat (first | ((first | (refine And.intro ?_ ?_; focus exact PLA) | ((first | with_reducible apply callB_i | with_reducible apply callK_intro | with_reducible apply callQ_i); (focus (first | assumption | (with_reducible apply tmS_ac h0 h1 <;> (first | assumption | rfl | (simp (disch := omega) only [go_sem]; first | done | rfl) | omega | decide | (simp; done))))); (try exact WP_au)) | refine RTk false [0, 1, 2, 3, 4, 5, 6, 7, 8, 10, 11, 12, 13, 14, 16, 17, 18, 19, 20] 7 ?_ | refine RTk true [9, 15, 21, 22] 3 ?_ | refine RTk false [23, 24] 1 ?_ | refine REx 25 ?_ | refine RB_done (by decide +kernel) ?_); try simp (maxSteps := 1000000) (disch := first | omega | rfl | decide | (simp only [LX] <;> omega)) only [go_sem, Nat.reduceAdd, Int.reduceAdd, Int.reduceSub, Int.reduceMul, BNS, doneF_at, doneF_set])))) | refine WA_seq ?_ | refine WA_block ?_ | (refine WA_skip ?_; try simp only [go_sem]) | (refine WA_ret ?_; try simp only [go_sem]) | refine WA_ct rfl ?_ | refine WA_cf rfl ?_))
        (refine Drop_slots (by first | exact Nat.le_refl _ | simp) ?_; focus ((try simp only [JL_same, JL_J, JL_nil, Int.reduceAdd, Nat.sub_sub, ICS, Bool.false_eq_true, if_false, if_true, mxP]); (try exact JL_refl _)))
      · (repeat (first | ((first | (refine And.intro ?_ ?_; focus exact PLA) | refine WA_seq (WA_region ?_) | refine WA_region ?_ | refine WA_exit ?_); try simp (maxSteps := 1000000) (disch := first | omega | rfl | decide | (simp only [LX] <;> omega)) only [go_sem, Nat.reduceAdd, Int.reduceAdd, Int.reduceSub, Int.reduceMul, BNS]) | (refine (WA_rb (id := 11) [25] (SubM.refl _) mixedOk ?_); simp only [LSZ]; (repeat (first | ((first | (refine And.intro ?_ ?_; focus exact PLA) | refine RTk false [0, 1, 2, 3, 4, 5, 6, 7, 8, 10, 11, 12, 13, 14, 16, 17, 18, 19, 20] 7 ?_ | refine RTk true [9, 15, 21, 22] 3 ?_ | refine RTk false [23, 24] 1 ?_ | refine REx 25 ?_ | refine RB_done (by decide +kernel) ?_); try simp (maxSteps := 1000000) (disch := first | omega | rfl | decide | (simp only [LX] <;> omega)) only [go_sem, Nat.reduceAdd, Int.reduceAdd, Int.reduceSub, Int.reduceMul, BNS])))) | refine WA_seq ?_ | refine WA_block ?_ | (refine WA_skip ?_; try simp only [go_sem]) | (refine WA_ret ?_; try simp only [go_sem]) | refine WA_ct rfl ?_ | refine WA_cf rfl ?_))
        have hd : mixF m a b (4 * c + i) = mxP m a b c i 4 := by unfold mixF; rw [show (4 * c + i) / 4 = c by omega, show (4 * c + i) % 4 = i by omega]
        rw [doneF_next hd]
        (exact sS0)
    · (repeat (first | ((first | (refine And.intro ?_ ?_; focus exact PLA) | refine WA_seq (WA_region ?_) | refine WA_region ?_ | refine WA_exit ?_); try simp (maxSteps := 1000000) (disch := first | omega | rfl | decide | (simp only [LX] <;> omega)) only [go_sem, Nat.reduceAdd, Int.reduceAdd, Int.reduceSub, Int.reduceMul, BNS]) | (refine (WA_rb (id := 11) [25] (SubM.refl _) mixedOk ?_); simp only [LSZ]; (repeat (first | ((first | (refine And.intro ?_ ?_; focus exact PLA) | refine RTk false [0, 1, 2, 3, 4, 5, 6, 7, 8, 10, 11, 12, 13, 14, 16, 17, 18, 19, 20] 7 ?_ | refine RTk true [9, 15, 21, 22] 3 ?_ | refine RTk false [23, 24] 1 ?_ | refine REx 25 ?_ | refine RB_done (by decide +kernel) ?_); try simp (maxSteps := 1000000) (disch := first | omega | rfl | decide | (simp only [LX] <;> omega)) only [go_sem, Nat.reduceAdd, Int.reduceAdd, Int.reduceSub, Int.reduceMul, BNS])))) | refine WA_seq ?_ | refine WA_block ?_ | (refine WA_skip ?_; try simp only [go_sem]) | (refine WA_ret ?_; try simp only [go_sem]) | refine WA_ct rfl ?_ | refine WA_cf rfl ?_))
      rw [show 4 * (c + 1) = 4 * c + 4 from rfl]
      (exact sS0)
  · (repeat (first | ((first | (refine And.intro ?_ ?_; focus exact PLA) | refine WA_seq (WA_region ?_) | refine WA_region ?_ | refine WA_exit ?_); try simp (maxSteps := 1000000) (disch := first | omega | rfl | decide | (simp only [LX] <;> omega)) only [go_sem, Nat.reduceAdd, Int.reduceAdd, Int.reduceSub, Int.reduceMul, BNS]) | (refine (WA_rb (id := 11) [25] (SubM.refl _) mixedOk ?_); simp only [LSZ]; (repeat (first | ((first | (refine And.intro ?_ ?_; focus exact PLA) | refine RTk false [0, 1, 2, 3, 4, 5, 6, 7, 8, 10, 11, 12, 13, 14, 16, 17, 18, 19, 20] 7 ?_ | refine RTk true [9, 15, 21, 22] 3 ?_ | refine RTk false [23, 24] 1 ?_ | refine REx 25 ?_ | refine RB_done (by decide +kernel) ?_); try simp (maxSteps := 1000000) (disch := first | omega | rfl | decide | (simp only [LX] <;> omega)) only [go_sem, Nat.reduceAdd, Int.reduceAdd, Int.reduceSub, Int.reduceMul, BNS])))) | refine WA_seq ?_ | refine WA_block ?_ | (refine WA_skip ?_; try simp only [go_sem]) | (refine WA_ret ?_; try simp only [go_sem]) | refine WA_ct rfl ?_ | refine WA_cf rfl ?_))
    (exact sR @doneF_all)

end Go.Proofs.YtenkjbkcdcionaaGreat
/- MixBlock. -/
namespace Go.Proofs.YtenkjbkcdcionaaGreat
set_option linter.unusedSimpArgs false
set_option linter.unusedVariables false
set_option maxRecDepth 20000
set_option maxHeartbeats 1000000
open Go.Abs

def zeroF : Nat → UInt8 := fun _ => 0
theorem fieldB_nat {m : Int} (hf : fieldB m.toNat = true) : ∃ n : Nat, m = n ∧ fieldB n = true ∧ 256 ≤ n ∧ n < 512 := by
  have hf' := hf
  unfold fieldB at hf
  rw [Bool.and_eq_true, Bool.and_eq_true, decide_eq_true_eq, decide_eq_true_eq] at hf
  exact ⟨m.toNat, by omega, hf', by omega, by omega⟩
end Go.Proofs.YtenkjbkcdcionaaGreat
/- The house's box and cipher. -/
namespace Go.Proofs.YtenkjbkcdcionaaGreat
set_option linter.unusedSimpArgs false
set_option linter.unusedVariables false
set_option maxRecDepth 20000
set_option maxHeartbeats 1000000
open Go.Abs

section
variable {P : Program} {T : TypeId}
end
def turnS (x : UInt8) (k : Nat) : UInt8 := UInt8.ofNat ((x.toNat <<< k ||| x.toNat <<< k >>> 8) &&& 255)
theorem turnS_ac (x : UInt8) {k : Nat} (hk : k ≤ 8) (h : List Blk) : AC Tryz.prog 126 [B x, .int .i64 k] h (B (turnS x k)) h := by
  have hx := u8_lt x
  have hl : x.toNat <<< k < 65536 := by
    rw [Nat.shiftLeft_eq]
    have h2 : 2 ^ k ≤ 2 ^ 8 := Nat.pow_le_pow_right (by omega) hk
    calc x.toNat * 2 ^ k ≤ x.toNat * 2 ^ 8 := Nat.mul_le_mul_left _ h2
      _ < 65536 := by omega
  have hw := wrap_N (n := x.toNat <<< k) (by omega)
  have hr := Nat.shiftRight_le (x.toNat <<< k) 8
  have ho := bits_or_N (a := x.toNat <<< k) (b := x.toNat <<< k >>> 8) (by omega) (by omega)
  have hs := shr_64 (a := x.toNat <<< k) (i := 8) (by omega)
  have hlt : (x.toNat <<< k ||| x.toNat <<< k >>> 8) < 9223372036854775808 := Nat.or_lt_two_pow (n := 63) (by omega) (by omega)
  (refine AC_begin (fun _ _ => Tryz.call126 _ _) Tryz.func126 rfl Tryz.ntmps126 Tryz.results126 (fun hwf => ?_); simp only [LCN, Nat.reduceAdd, Nat.reduceSub, List.replicate])
  (refine sN (And.intro @hw (And.intro @ho @hs)) ?_)
  (exact sR (And.intro @turnS.eq_1 (And.intro @hw (And.intro @ho @hs))))

def powF (m e : Nat) : Nat → UInt8 := fun i => po m (UInt8.ofNat i) e
theorem powS_ac {m : Nat} (h0 : 256 ≤ m) (h1 : m < 512) {e : Nat} (he : e < 9223372036854775808) (h : List Blk) : AC Tryz.prog 118 [.int .i64 m, .int .i64 e] h (.agg (Bs 256 (powF m e)).toArray) h := by
  (refine AC_begin (fun _ _ => Tryz.call118 _ _) Tryz.func118 rfl Tryz.ntmps118 Tryz.results118 (fun hwf => ?_); simp only [LCN, Nat.reduceAdd, Nat.reduceSub, List.replicate])
  (refine sN0 ?_)
  refine WA_forP (fun k => [(6, .int .i64 k), (7, J), (8, J), (9, J), (11, J), (12, J), (13, J), (14, J), (15, J), (16, J), (17, J), (18, J), (19, J), (20, J), (21, J), (22, J), (23, J), (24, J), (25, J), (26, J), (27, J), (28, J), (29, J), (30, J), (31, J), (32, J), (33, J), (34, J), (35, J)]) (fun k => [(1, ⟨Bs 256 (pre k (powF m e) fun _ => 0), true⟩)]) (256) ?_ ?_ ?_ <;> (try simp only [PTS])
  · rw [pre_zero]
    (exact sS0)
  · intro i hi
    (refine sN0 ?_)
    refine WA_forP (fun k => [(7, B (poP m (UInt8.ofNat i) e k)), (8, B (sqP m (UInt8.ofNat i) k)), (9, .int .i64 ((e >>> k : Nat))), (18, J), (19, J), (20, J), (21, J), (22, J), (23, J), (24, J), (25, J), (26, J), (27, J), (28, J), (29, J), (30, J), (31, J), (32, J)]) (fun k => []) (blen e) ?_ ?_ ?_ <;> (try simp only [PTS])
    · (refine Drop_slots (by first | exact Nat.le_refl _ | simp) ?_; focus ((try simp only [JL_same, JL_J, JL_nil, Int.reduceAdd, Nat.sub_sub, ICS, Bool.false_eq_true, if_false, if_true, sqP, poP, Nat.shiftRight_zero]); (try exact JL_refl _)))
    · intro k hk
      have hp := blen_pos hk
      have hs := Nat.shiftRight_le e k
      have hw := wrap_N (n := e >>> (k+1)) (Nat.lt_of_le_of_lt (Nat.shiftRight_le e (k + 1)) he)
      cases hb : e.testBit k
      · (refine sW (And.intro @hb @hw) (tmS_ac h0 h1) ?_)
        (refine Drop_slots (by first | exact Nat.le_refl _ | simp) ?_; focus ((try simp only [JL_same, JL_J, JL_nil, Int.reduceAdd, Nat.sub_sub, ICS, Bool.false_eq_true, if_false, if_true, poP_f hb, sqP]); (try exact JL_refl _)))
      · (refine sW (And.intro @hb @hw) (tmS_ac h0 h1) ?_)
        (refine Drop_slots (by first | exact Nat.le_refl _ | simp) ?_; focus ((try simp only [JL_same, JL_J, JL_nil, Int.reduceAdd, Nat.sub_sub, ICS, Bool.false_eq_true, if_false, if_true, poP_t hb, sqP]); (try exact JL_refl _)))
    · (refine sN (And.intro @blen_done (And.intro @upd_pre (show poP m (UInt8.ofNat i) e (blen e) = powF m e i from rfl))) ?_)
      (exact sS0)
  · (refine sN0 ?_)
    (exact sR @Bs_pre)

def rotP (x c : UInt8) : Nat → UInt8
  | 0 => c
  | k + 1 => rotP x c k ^^^ turnS x ([0, 1, 4].getD k 0)
def rotF (c : UInt8) : Nat → UInt8 := fun i => rotP (UInt8.ofNat i) c 3
theorem rotS_ac {h : List Blk} {b : Nat} {r : Bool} (hb : h[b]? = some ⟨[.int .i64 0, .int .i64 1, .int .i64 4], r⟩) (c : UInt8) : AC Tryz.prog 119 [sl b 0 3 1, B c] h (.agg (Bs 256 (rotF c)).toArray) h := by
  have hbl := blt hb
  have ht0 : ∀ x h, AC Tryz.prog 126 [B x, .int .i64 0] h (B (turnS x 0)) h := fun x h => turnS_ac x (k := 0) (by omega) h
  have ht1 : ∀ x h, AC Tryz.prog 126 [B x, .int .i64 1] h (B (turnS x 1)) h := fun x h => turnS_ac x (k := 1) (by omega) h
  have ht4 : ∀ x h, AC Tryz.prog 126 [B x, .int .i64 4] h (B (turnS x 4)) h := fun x h => turnS_ac x (k := 4) (by omega) h
  (refine AC_begin (fun _ _ => Tryz.call119 _ _) Tryz.func119 rfl Tryz.ntmps119 Tryz.results119 (fun hwf => ?_); simp only [LCN, Nat.reduceAdd, Nat.reduceSub, List.replicate])
  (refine sN0 ?_)
  refine WA_forP (fun k => [(6, .int .i64 k), (7, J), (8, J), (10, J), (11, J), (12, J), (13, J), (14, J), (15, J), (16, J), (17, J), (18, J), (19, J), (20, J), (21, J), (22, J), (23, J), (24, J), (25, J), (26, J), (27, J), (28, J), (29, J), (30, J), (31, J), (32, J)]) (fun k => [(1, ⟨Bs 256 (pre k (rotF c) fun _ => 0), true⟩)]) (256) ?_ ?_ ?_ <;> (try simp only [PTS])
  · rw [pre_zero]
    (exact sS0)
  · intro i hi
    (refine sN0 ?_)
    refine WA_forP (fun k => [(7, B (rotP (UInt8.ofNat i) c k)), (8, .int .i64 k), (15, J), (16, J), (17, J), (18, J), (19, J), (20, J), (21, J), (22, J), (23, J), (24, J), (25, J), (26, J), (27, J), (28, J), (29, J)]) (fun k => []) (3) ?_ ?_ ?_ <;> (try simp only [PTS])
    · (refine Drop_slots (by first | exact Nat.le_refl _ | simp) ?_; focus ((try simp only [JL_same, JL_J, JL_nil, Int.reduceAdd, Nat.sub_sub, ICS, Bool.false_eq_true, if_false, if_true, rotP]); (try exact JL_refl _)))
    · intro k hk
      rcases (show k = 0 ∨ k = 1 ∨ k = 2 by omega) with rfl | rfl | rfl
      · (refine sW (look_old hb) @ht0 ?_)
        (refine Drop_slots (by first | exact Nat.le_refl _ | simp) ?_; focus ((try simp only [JL_same, JL_J, JL_nil, Int.reduceAdd, Nat.sub_sub, ICS, Bool.false_eq_true, if_false, if_true, rotP, List.getD_cons_zero, List.getD_cons_succ]); (try exact JL_refl _)))
      · (refine sW (look_old hb) @ht1 ?_)
        (refine Drop_slots (by first | exact Nat.le_refl _ | simp) ?_; focus ((try simp only [JL_same, JL_J, JL_nil, Int.reduceAdd, Nat.sub_sub, ICS, Bool.false_eq_true, if_false, if_true, rotP, List.getD_cons_zero, List.getD_cons_succ]); (try exact JL_refl _)))
      · (refine sW (look_old hb) @ht4 ?_)
        (refine Drop_slots (by first | exact Nat.le_refl _ | simp) ?_; focus ((try simp only [JL_same, JL_J, JL_nil, Int.reduceAdd, Nat.sub_sub, ICS, Bool.false_eq_true, if_false, if_true, rotP, List.getD_cons_zero, List.getD_cons_succ]); (try exact JL_refl _)))
    · (refine sN (And.intro @upd_pre (show rotP (UInt8.ofNat i) c 3 = rotF c i from rfl)) ?_)
      (exact sS0)
  · (refine sN0 ?_)
    (exact sR @Bs_pre)

def thenF (p q : Nat → UInt8) : Nat → UInt8 := fun i => q (p i).toNat
theorem thenS_ac (p q : Nat → UInt8) (h : List Blk) : AC Tryz.prog 117 [.agg (Bs 256 p).toArray, .agg (Bs 256 q).toArray] h (.agg (Bs 256 (thenF p q)).toArray) h := by
  (refine AC_begin (fun _ _ => Tryz.call117 _ _) Tryz.func117 rfl Tryz.ntmps117 Tryz.results117 (fun hwf => ?_); simp only [LCN, Nat.reduceAdd, Nat.reduceSub, List.replicate])
  (refine sN0 ?_)
  refine WA_forP (fun k => [(6, .int .i64 k), (8, J), (9, J), (10, J), (11, J), (12, J), (13, J), (14, J), (15, J), (16, J), (17, J), (18, J)]) (fun k => [(3, ⟨Bs 256 (pre k (thenF p q) fun _ => 0), true⟩)]) (256) ?_ ?_ ?_ <;> (try simp only [PTS])
  · rw [pre_zero]
    (exact sS0)
  · intro i hi
    have hp := u8_lt (p i)
    (refine sN (And.intro @upd_pre (show q (p i).toNat = thenF p q i from rfl)) ?_)
    (exact sS0)
  · (refine sN0 ?_)
    (exact sR @Bs_pre)

def hBoxF : Nat → UInt8 := thenF (powF 285 254) (rotF 90)
def hMixF : Nat → UInt8 := fun n => inv 285 (UInt8.ofNat ((n / 4) ^^^ (4 + n % 4)))
theorem hMix_at {i j : Nat} (hj : j < 4) : inv 285 (UInt8.ofNat (i ^^^ (4 + j))) = hMixF (i * 4 + j) := by
  unfold hMixF; rw [show (i * 4 + j) / 4 = i by omega, show (i * 4 + j) % 4 = j by omega]
def hPlF : Nat → UInt8 := fun i => UInt8.ofNat ((13 * i + 4) % 16)
def zF : Nat → UInt8 := fun _ => 0
theorem Ci_splice0 (a0 : Int) (a1 a2 a3 : Nat → UInt8) (a4 x : Int) : splice (Ci a0 a1 a2 a3 a4) 0 [.int .i64 x] = Ci x a1 a2 a3 a4 := by
  rw [Ci_cut0, mid_splice (n := 1) (by simp) (by simp) (by simp)]; rfl
theorem Ci_splice4 (a0 : Int) (a1 a2 a3 : Nat → UInt8) (a4 x : Int) : splice (Ci a0 a1 a2 a3 a4) 289 [.int .i64 x] = Ci a0 a1 a2 a3 x := by
  have h := mid_splice (A := [.int .i64 a0] ++ (Bs 256 a1 ++ (Bs 16 a2 ++ Bs 16 a3))) (s := [.int .i64 a4]) (R := []) (x := [.int .i64 x]) (o := 289) (n := 1) (by simp [Bs_length]) (by simp) (by simp)
  simpa [Ci] using h
theorem splice_all {l x : List Value} (h : l.length = x.length) : splice l 0 x = x := by
  have := mid_splice (A := []) (s := l) (R := []) (x := x) (o := 0) (n := l.length) rfl rfl h.symm
  simpa using this
theorem Ci_splice_all (a0 : Int) (a1 a2 a3 : Nat → UInt8) (a4 : Int) (b0 : Int) (b1 b2 b3 : Nat → UInt8) (b4 : Int) : splice (Ci a0 a1 a2 a3 a4) 0 (Ci b0 b1 b2 b3 b4) = Ci b0 b1 b2 b3 b4 := splice_all (by simp [Ci_length])

theorem houseS_ac (r : Int) (h : List Blk) : AC Tryz.prog 101 [.int .i64 r] h (.agg (Ci 285 hBoxF hMixF hPlF r).toArray) h := by
  have hp : ∀ h, AC Tryz.prog 118 [.int .i64 285, .int .i64 254] h (.agg (Bs 256 (powF 285 254)).toArray) h := fun h => powS_ac (m := 285) (by omega) (by omega) (e := 254) (by omega) h
  have hi : ∀ a h, AC Tryz.prog 112 [.int .i64 285, B a] h (B (inv 285 a)) h := fun a h => invS_ac (m := 285) (by omega) (by omega) a h
  (refine AC_begin (fun _ _ => Tryz.call101 _ _) Tryz.func101 rfl Tryz.ntmps101 Tryz.results101 (fun hwf => ?_); simp only [LCN, Nat.reduceAdd, Nat.reduceSub, List.replicate])
  (refine sW (And.intro @Ci_splice0 (And.intro @Ci_splice4 (And.intro @Ci_splice_all @Ci_splice1))) (And.intro @hp (And.intro @rotS_ac @thenS_ac)) ?_)
  refine WA_forP (fun k => [(4, .int .i64 k), (5, J), (14, J), (15, J), (16, J), (17, J), (18, J), (19, J), (20, J), (21, J), (22, J), (23, J), (24, J), (25, J), (26, J), (27, J), (28, J), (29, J), (30, J), (31, J), (32, J)]) (fun k => [(1, ⟨Ci 285 hBoxF (pre (k * 4) hMixF zF) zF r, true⟩)]) (4) ?_ ?_ ?_ <;> (try simp only [PTS])
  · rw [Nat.zero_mul, pre_zero]
    (exact sS0)
  · intro i hi4
    (refine sN0 ?_)
    refine WA_forP (fun k => [(5, .int .i64 k), (18, J), (19, J), (20, J), (21, J), (22, J), (23, J), (24, J), (25, J), (26, J), (27, J), (28, J), (29, J), (30, J), (31, J), (32, J)]) (fun k => [(1, ⟨Ci 285 hBoxF (pre (i * 4 + k) hMixF zF) zF r, true⟩)]) (4) ?_ ?_ ?_ <;> (try simp only [PTS])
    · (exact sS0)
    · intro j hj
      have hx := bits_xor_N (a := i) (b := 4 + j) (by omega) (by omega)
      (repeat (first | ((first | (refine And.intro ?_ ?_; focus exact PLA) | ((first | with_reducible apply callB_i | with_reducible apply callK_intro | with_reducible apply callQ_i); (focus (first | assumption | (with_reducible apply hi <;> (first | assumption | rfl | (simp (disch := omega) only [go_sem]; first | done | rfl) | omega | decide | (simp; done))))); (try exact WP_au)) | refine WA_seq (WA_region ?_) | refine WA_region ?_ | refine WA_exit ?_); try simp (maxSteps := 1000000) (disch := first | omega | rfl | decide | (simp only [LX] <;> omega)) only [go_sem, Nat.reduceAdd, Int.reduceAdd, Int.reduceSub, Int.reduceMul, BNS, hx, hMix_at hj, upd_pre]) | (refine (WA_rb (id := 9) [11] (SubM.refl _) mixedOk ?_); simp only [LSZ]; (repeat (first | ((first | (refine And.intro ?_ ?_; focus exact PLA) | ((first | with_reducible apply callB_i | with_reducible apply callK_intro | with_reducible apply callQ_i); (focus (first | assumption | (with_reducible apply hi <;> (first | assumption | rfl | (simp (disch := omega) only [go_sem]; first | done | rfl) | omega | decide | (simp; done))))); (try exact WP_au)) | refine RTk false [0, 1, 2, 3, 4, 5, 6, 8, 9] 3 ?_ | refine RTk true [7] 2 ?_ | refine RTk false [10] 1 ?_ | refine REx 11 ?_ | refine RB_done (by decide +kernel) ?_); try simp (maxSteps := 1000000) (disch := first | omega | rfl | decide | (simp only [LX] <;> omega)) only [go_sem, Nat.reduceAdd, Int.reduceAdd, Int.reduceSub, Int.reduceMul, BNS, hx, hMix_at hj, upd_pre])))) | refine WA_seq ?_ | refine WA_block ?_ | (refine WA_skip ?_; try simp only [go_sem]) | (refine WA_ret ?_; try simp only [go_sem]) | refine WA_ct rfl ?_ | refine WA_cf rfl ?_))
      (exact sS0)
    · (refine sN0 ?_)
      rw [show (i + 1) * 4 = i * 4 + 4 by omega]
      (exact sS0)
  · (refine sN0 ?_)
    refine WA_forP (fun k => [(6, .int .i64 k), (33, J), (34, J), (35, J), (36, J), (37, J), (38, J), (39, J), (40, J), (41, J), (42, J), (43, J), (44, J)]) (fun k => [(1, ⟨Ci 285 hBoxF (pre 16 hMixF zF) (pre k hPlF zF) r, true⟩)]) (16) ?_ ?_ ?_ <;> (try simp only [PTS])
    · rw [pre_zero]
      (exact sS0)
    · intro i hi16
      (refine sN (And.intro @upd_pre (show UInt8.ofNat ((13 * i + 4) % 16) = hPlF i from rfl)) ?_)
      (exact sS0)
    · (refine sN0 ?_)
      (exact sR0)

end Go.Proofs.YtenkjbkcdcionaaGreat
/- Matrices: reducing one to the unit matrix. Plain. -/
namespace Go.Proofs.YtenkjbkcdcionaaGreat
set_option linter.unusedSimpArgs false
set_option linter.unusedVariables false
set_option maxRecDepth 20000
set_option maxHeartbeats 1000000
open Go.Abs

theorem over_zero (f g : Nat → UInt8) (o : Nat) : over f o 0 g = f := by funext i; unfold over; rw [if_neg (by omega)]
theorem over_set (f g : Nat → UInt8) (o j : Nat) : upd (over f o j g) (o + j) (g j) = over f o (j + 1) g := by
  funext i; unfold upd over
  by_cases h : i = o + j
  · rw [if_pos h, if_pos (by omega)]; congr 1; omega
  · rw [if_neg h]
    by_cases h2 : o ≤ i ∧ i < o + j
    · rw [if_pos h2, if_pos (by omega)]
    · rw [if_neg h2, if_neg (by omega)]
theorem over_at (f g : Nat → UInt8) (o j : Nat) : over f o j g (o + j) = f (o + j) := by unfold over; rw [if_neg (by omega)]
theorem over_out {f g : Nat → UInt8} {o j x : Nat} (h : x < o ∨ o + j ≤ x) : over f o j g x = f x := by unfold over; rw [if_neg (by omega)]
theorem over_same (f : Nat → UInt8) (o j : Nat) : over f o j (fun t => f (o + t)) = f := by
  funext i; unfold over; split
  · show f (o + (i - o)) = f i
    congr 1; omega
  · rfl

def skip (p : Nat → Bool) : Nat → Nat → Nat
  | 0, _ => 0
  | f + 1, s => if p s then skip p f (s + 1) + 1 else 0
theorem skip_go {p : Nat → Bool} : ∀ f s r, r < skip p f s → p (s + r) = true
  | 0, _, _, h => by simp [skip] at h
  | f + 1, s, r, h => by
    rw [skip] at h
    split at h
    · rename_i hp
      cases r with
      | zero => exact hp
      | succ r => have := skip_go (p := p) f (s + 1) r (by omega); rwa [show s + (r + 1) = s + 1 + r by omega]
    · omega
theorem skip_end {p : Nat → Bool} : ∀ f s, skip p f s < f → p (s + skip p f s) = false
  | 0, _, h => by omega
  | f + 1, s, h => by
    rw [skip] at h ⊢
    split
    · rename_i hp
      rw [if_pos hp] at h
      have := skip_end (p := p) f (s + 1) (by omega)
      rwa [show s + (skip p f (s + 1) + 1) = s + 1 + skip p f (s + 1) by omega]
    · rename_i hp; simpa using hp

def pivP (a : Nat → UInt8) (k i : Nat) : Bool := decide (i < 4) && a (i * 4 + k) == 0
def pivC (a : Nat → UInt8) (k : Nat) : Nat := skip (pivP a k) 8 k
def piv (a : Nat → UInt8) (k : Nat) : Nat := k + pivC a k
theorem piv_go {a : Nat → UInt8} {k r : Nat} (h : r < pivC a k) : k + r < 4 ∧ (a ((k + r) * 4 + k) == 0) = true := by
  have := skip_go _ _ _ h
  unfold pivP at this
  rwa [Bool.and_eq_true, decide_eq_true_eq] at this
theorem piv_le (a : Nat → UInt8) {k : Nat} (hk : k < 4) : k ≤ piv a k ∧ piv a k ≤ 4 := by
  unfold piv
  refine ⟨Nat.le_add_right _ _, ?_⟩
  cases h : pivC a k with
  | zero => omega
  | succ r => have := piv_go (a := a) (k := k) (r := r) (by omega); omega
theorem piv_end {a : Nat → UInt8} {k : Nat} (hk : k < 4) (h : piv a k < 4) : (a (piv a k * 4 + k) == 0) = false := by
  have h2 : skip (pivP a k) 8 k < 8 := by have : piv a k = k + skip (pivP a k) 8 k := rfl; omega
  have := skip_end _ _ h2
  unfold pivP at this
  rw [show k + skip (fun i => decide (i < 4) && a (i * 4 + k) == 0) 8 k = piv a k from rfl] at this
  rw [decide_eq_true h, Bool.true_and] at this
  exact this

def swp (a : Nat → UInt8) (i k : Nat) : Nat → UInt8 := over (over a (i * 4) 4 (fun t => a (k * 4 + t))) (k * 4) 4 (fun t => a (i * 4 + t))
def scl (m : Nat) (x : Nat → UInt8) (k : Nat) (v : UInt8) (j : Nat) : Nat → UInt8 := over x (k * 4) j fun t => tm m (x (k * 4 + t)) v
def elm (m : Nat) (f : UInt8) (k r : Nat) (x : Nat → UInt8) (j : Nat) : Nat → UInt8 := over x (r * 4) j fun t => x (r * 4 + t) ^^^ tm m f (x (k * 4 + t))
theorem scl_zero (m : Nat) (x : Nat → UInt8) (k : Nat) (v : UInt8) : scl m x k v 0 = x := over_zero _ _ _
theorem scl_at (m : Nat) (x : Nat → UInt8) (k : Nat) (v : UInt8) (j : Nat) : scl m x k v j (k * 4 + j) = x (k * 4 + j) := over_at _ _ _ _
theorem scl_set (m : Nat) (x : Nat → UInt8) (k : Nat) (v : UInt8) (j : Nat) : upd (scl m x k v j) (k * 4 + j) (tm m (x (k * 4 + j)) v) = scl m x k v (j + 1) := over_set x (fun t => tm m (x (k * 4 + t)) v) _ _
theorem elm_zero (m : Nat) (f : UInt8) (k r : Nat) (x : Nat → UInt8) : elm m f k r x 0 = x := over_zero _ _ _
theorem elm_at (m : Nat) (f : UInt8) (k r : Nat) (x : Nat → UInt8) (j : Nat) : elm m f k r x j (r * 4 + j) = x (r * 4 + j) := over_at _ _ _ _
theorem elm_key {m : Nat} {f : UInt8} {k r : Nat} {x : Nat → UInt8} {j t : Nat} (h : r ≠ k) (ht : t < 4) (hj : j ≤ 4) : elm m f k r x j (k * 4 + t) = x (k * 4 + t) := over_out (by omega)
theorem elm_set (m : Nat) (f : UInt8) (k r : Nat) (x : Nat → UInt8) (j : Nat) : upd (elm m f k r x j) (r * 4 + j) (x (r * 4 + j) ^^^ tm m f (x (k * 4 + j))) = elm m f k r x (j + 1) := over_set x (fun t => x (r * 4 + t) ^^^ tm m f (x (k * 4 + t))) _ _
theorem tm_zero (m : Nat) (x : UInt8) : tm m 0 x = 0 := by
  have hd : ∀ k, dblN m 0 k = 0 := by
    intro k; induction k with
    | zero => rfl
    | succ k ih => rw [dblN, ih]; rfl
  have : ∀ k, mulP m 0 x.toNat k = 0 := by
    intro k; induction k with
    | zero => rfl
    | succ k ih => rw [mulP, ih, hd]; simp
  unfold tm mulN
  rw [show (0 : UInt8).toNat = 0 from rfl, this]; rfl
theorem elm_f0 (m k r : Nat) (x : Nat → UInt8) (j : Nat) : elm m 0 k r x j = x := by
  unfold elm
  simp only [tm_zero, UInt8.xor_zero]
  exact over_same _ _ _

def elN (m k : Nat) (a b : Nat → UInt8) : Nat → (Nat → UInt8) × (Nat → UInt8)
  | 0 => (a, b)
  | r + 1 => if r = k then elN m k a b r else (elm m ((elN m k a b r).1 (r * 4 + k)) k r (elN m k a b r).1 4, elm m ((elN m k a b r).1 (r * 4 + k)) k r (elN m k a b r).2 4)
theorem elN_same {m k : Nat} {a b : Nat → UInt8} : elN m k a b (k + 1) = elN m k a b k := by rw [elN, if_pos rfl]
theorem elN_other {m k r : Nat} {a b : Nat → UInt8} (h : r ≠ k) : elN m k a b (r + 1) = (elm m ((elN m k a b r).1 (r * 4 + k)) k r (elN m k a b r).1 4, elm m ((elN m k a b r).1 (r * 4 + k)) k r (elN m k a b r).2 4) := by rw [elN, if_neg h]
theorem elN_f0 {m k r : Nat} {a b : Nat → UInt8} (h : (elN m k a b r).1 (r * 4 + k) = 0) : elN m k a b (r + 1) = elN m k a b r := by
  rw [elN, h, elm_f0, elm_f0]; split <;> rfl

structure RS where
  a : Nat → UInt8
  b : Nat → UInt8
  d : UInt8
def stepR (m k : Nat) (s : RS) : RS :=
  ⟨(elN m k (scl m (swp s.a (piv s.a k) k) k (inv m (swp s.a (piv s.a k) k (k * 4 + k))) 4) (scl m (swp s.b (piv s.a k) k) k (inv m (swp s.a (piv s.a k) k (k * 4 + k))) 4) 4).1,
   (elN m k (scl m (swp s.a (piv s.a k) k) k (inv m (swp s.a (piv s.a k) k (k * 4 + k))) 4) (scl m (swp s.b (piv s.a k) k) k (inv m (swp s.a (piv s.a k) k (k * 4 + k))) 4) 4).2,
   tm m s.d (swp s.a (piv s.a k) k (k * 4 + k))⟩
def unitP (k : Nat) : Nat → UInt8 := fun x => if x % 5 = 0 ∧ x < 5 * k then 1 else 0
def unitF : Nat → UInt8 := unitP 4
theorem unitP_zero : unitP 0 = fun _ => 0 := by funext i; simp [unitP]
theorem unitP_set (k : Nat) : upd (unitP k) (k * 4 + k) 1 = unitP (k + 1) := by
  funext i; unfold upd unitP
  by_cases h : i = k * 4 + k
  · rw [if_pos h, if_pos (by omega)]
  · rw [if_neg h]
    by_cases h2 : i % 5 = 0 ∧ i < 5 * k
    · rw [if_pos h2, if_pos (by omega)]
    · rw [if_neg h2, if_neg (by omega)]
def rs (m : Nat) (a : Nat → UInt8) : Nat → RS
  | 0 => ⟨a, unitF, 1⟩
  | k + 1 => stepR m k (rs m a k)
def sing (m : Nat) (a : Nat → UInt8) : Nat → Bool
  | 0 => false
  | k + 1 => sing m a k || piv (rs m a k).a k == 4
theorem sing_mono {m : Nat} {a : Nat → UInt8} {k : Nat} : ∀ {n}, k < n → piv (rs m a k).a k = 4 → sing m a n = true
  | 0, h, _ => by omega
  | n + 1, h, hp => by
    rw [sing, Bool.or_eq_true]
    by_cases e : k = n
    · subst e; right; simp [hp]
    · left; exact sing_mono (by omega) hp
theorem sing_next {m : Nat} {a : Nat → UInt8} {k : Nat} (h : sing m a k = false) (hp : piv (rs m a k).a k ≠ 4) : sing m a (k + 1) = false := by
  rw [sing, h, Bool.false_or]; simpa using hp
def detF (m : Nat) (a : Nat → UInt8) : UInt8 := if sing m a 4 then 0 else (rs m a 4).d
def backF (m : Nat) (a : Nat → UInt8) : Nat → UInt8 := if sing m a 4 then zeroF else (rs m a 4).b

theorem WA_mid {P : Program} {n0 : Nat} {x y : Code} {Q Q' : Exit → AS → Prop} {s : AS} (S : AS) (h : WA P n0 x (Then (fun s' => Drop n0 s' S) Q') s) (h2 : WA P n0 y Q S) : WA P n0 x (Then (WA P n0 y Q) Q') s :=
  WA_mono h fun e s' hq => by
    cases e <;> first | exact WA_pre hq h2 | exact hq
theorem WA_midP {P : Program} {n0 : Nat} {x y : Code} {Q Q' : Exit → AS → Prop} {t : List Value} {H L : List Blk} (ps : List (Nat × Value)) (L' : List Blk)
    (h : WA P n0 x (Then (fun s' => Drop n0 s' ⟨patT t ps, H ++ L'⟩) Q') ⟨t, H ++ L⟩) (h2 : WA P n0 y Q ⟨patT t ps, H ++ L'⟩) : WA P n0 x (Then (WA P n0 y Q) Q') ⟨t, H ++ L⟩ := WA_mid _ h h2
theorem unitS_ac (h : List Blk) : AC Tryz.prog 111 [] h (.agg (Bs 16 unitF).toArray) h := by
  (refine AC_begin (fun _ _ => Tryz.call111 _ _) Tryz.func111 rfl Tryz.ntmps111 Tryz.results111 (fun hwf => ?_); simp only [LCN, Nat.reduceAdd, Nat.reduceSub, List.replicate])
  (refine sN0 ?_)
  refine WA_forP (fun k => [(2, .int .i64 k), (4, J), (5, J), (6, J), (7, J), (8, J), (9, J), (10, J), (11, J)]) (fun k => [(1, ⟨Bs 16 (unitP k), true⟩)]) (4) ?_ ?_ ?_ <;> (try simp only [PTS])
  · (exact sS @unitP_zero)
  · intro k hk
    (refine sN @unitP_set ?_)
    (exact sS0)
  · (refine sN0 ?_)
    (exact sR @unitF.eq_1)

theorem unitI_ac (h : List Blk) : AC Tryz.prog 97 [] h (.agg (Bs 16 unitF).toArray) h := by
  (refine AC_begin (fun _ _ => Tryz.call97 _ _) Tryz.func97 rfl Tryz.ntmps97 Tryz.results97 (fun hwf => ?_); simp only [LCN, Nat.reduceAdd, Nat.reduceSub, List.replicate])
  (refine sN0 ?_)
  refine WA_forP (fun k => [(2, J), (4, .int .i64 k), (5, J), (6, J), (7, J), (8, J), (9, J), (10, J), (11, J)]) (fun k => [(1, ⟨Bs 16 (unitP k), true⟩)]) (4) ?_ ?_ ?_ <;> (try simp only [PTS])
  · (exact sS @unitP_zero)
  · intro k hk
    (refine sN @unitP_set ?_)
    (exact sS0)
  · (refine sN0 ?_)
    (exact sR @unitF.eq_1)

end Go.Proofs.YtenkjbkcdcionaaGreat
/- Reducing a matrix: the reference. -/
namespace Go.Proofs.YtenkjbkcdcionaaGreat
set_option linter.unusedSimpArgs false
set_option linter.unusedVariables false
set_option maxRecDepth 20000
set_option maxHeartbeats 1000000
open Go.Abs

set_option maxHeartbeats 8000000 in
theorem redS_ac {m : Nat} (h0 : 256 ≤ m) (h1 : m < 512) (a : Nat → UInt8) (h : List Blk) : AC Tryz.prog 93 [.int .i64 m, .agg (Bs 16 a).toArray] h (.tuple #[B (detF m a), .agg (Bs 16 (backF m a)).toArray]) h := by
  (refine AC_begin (fun _ _ => Tryz.call93 _ _) Tryz.func93 rfl Tryz.ntmps93 Tryz.results93 (fun hwf => ?_); simp only [LCN, Nat.reduceAdd, Nat.reduceSub, List.replicate])
  (refine sW (And.intro (@yieldA_at 2 25) (@yieldA_at 2 114)) @unitS_ac ?_)
  refine WA_forPJ (fun k => sing m a k = false) (fun k => [(4, J), (7, B (rs m a k).d), (8, .int .i64 k), (9, J), (10, J), (11, J), (12, J), (13, J), (14, J), (15, J), (16, J), (18, J), (19, J), (20, J), (21, J), (22, J), (23, J), (24, J), (25, J), (26, J), (27, J), (28, J), (29, J), (30, J), (31, J), (32, J), (33, J), (34, J), (35, J), (36, J), (37, J), (38, J), (39, J), (40, J), (41, J), (42, J), (43, J), (44, J), (45, J), (46, J), (47, J), (48, J), (49, J), (50, J), (51, J), (52, J), (53, J), (54, J), (55, J), (56, J), (57, J), (58, J), (59, J), (60, J), (61, J), (62, J), (63, J), (64, J), (65, J), (66, J), (67, J), (68, J), (69, J), (70, J), (71, J), (72, J), (73, J), (74, J), (75, J), (76, J), (77, J), (78, J), (79, J), (80, J), (81, J), (82, J), (83, J), (84, J), (85, J), (86, J), (87, J), (88, J), (89, J), (90, J), (91, J), (92, J), (93, J), (94, J), (95, J), (96, J), (97, J), (98, J), (99, J), (100, J), (101, J), (102, J), (103, J), (104, J), (105, J), (106, J), (107, J), (108, J), (109, J), (110, J), (111, J), (112, J), (113, J), (114, J), (115, J), (116, J), (117, J), (118, J), (119, J), (120, J), (121, J), (122, J), (123, J), (124, J), (125, J), (126, J), (127, J), (128, J), (129, J), (130, J), (131, J), (132, J), (133, J), (134, J), (135, J), (136, J), (137, J), (138, J), (139, J), (140, J), (141, J), (142, J), (143, J), (144, J), (145, J), (146, J), (147, J), (148, J), (149, J), (150, J), (151, J), (152, J), (153, J), (154, J), (155, J), (156, J)]) (fun k => [(0, ⟨Bs 16 (rs m a k).a, true⟩), (2, ⟨Bs 16 (rs m a k).b, true⟩)]) (4) ?_ ?_ ?_ ?_ <;> (try simp only [PTS])
  · rfl
  · (refine Drop_slots (by first | exact Nat.le_refl _ | simp) ?_; focus ((try simp only [JL_same, JL_J, JL_nil, Int.reduceAdd, Nat.sub_sub, ICS, Bool.false_eq_true, if_false, if_true, rs]); (try exact JL_refl _)))
  · intro kk hk hJ
    have hs : rs m a (kk + 1) = stepR m kk (rs m a kk) := rfl
    rw [hs]
    have hmono := sing_mono (m := m) (a := a) hk
    have hnext := sing_next hJ
    clear hs hJ
    generalize rs m a kk = s at *
    obtain ⟨A, C, d⟩ := s
    simp only [] at *
    unfold stepR
    simp only []
    have hpl := piv_le A hk
    have hpe : piv A kk = kk + pivC A kk := rfl
    (refine sN (And.intro (@yieldA_at 2 25) (@yieldA_at 2 114)) ?_)
    refine WA_forP (fun k => [(9, .int .i64 ((kk + k : Nat))), (23, J), (24, J), (25, J), (26, J), (27, J), (28, J), (29, J), (30, J), (31, J), (32, J), (33, J), (34, J)]) (fun k => []) (pivC A kk) ?_ ?_ ?_ <;> (try simp only [PTS])
    · (exact sS0)
    · intro r hr
      have hg := piv_go hr
      have hg2 := hg.2
      have hd := decide_eq_true hg.1
      (refine sN (And.intro @hg2 (And.intro @hd (And.intro (@yieldA_at 2 25) (@yieldA_at 2 114)))) ?_)
      (exact sS @Nat.add_assoc)
    · by_cases h4 : piv A kk = 4
      · have h4' : kk + pivC A kk = 4 := h4
        have hd : decide (kk + pivC A kk < 4) = false := decide_eq_false (by omega)
        (refine sN (And.intro @hd (And.intro (@yieldA_at 2 25) (@yieldA_at 2 114))) ?_)
        (exact sR (And.intro @detF.eq_1 (And.intro @backF.eq_1 (And.intro (hmono h4) @zeroF.eq_1))))
      · have hpf := piv_end (a := A) hk (by omega)
        have hnx := hnext h4
        clear hmono hnext
        rw [← hpe]
        have hi4 : piv A kk < 4 := by omega
        clear hpl hpe h4
        generalize piv A kk = i at *
        have hd := decide_eq_true hi4
        (refine sN (And.intro @hpf (And.intro @hd (And.intro (@yieldA_at 2 25) (@yieldA_at 2 114)))) ?_)
        refine WA_midP [(9, .int .i64 (i)), (10, pt (h.length + 3) 0), (11, pt (h.length + 4) 0), (38, J), (39, J), (40, J), (41, J), (42, J), (43, J)] [⟨Bs 16 A, true⟩, ⟨Bs 16 (fun _ => 0), true⟩, ⟨Bs 16 C, true⟩, ⟨Bs 4 (fun t => A (i * 4 + t)), true⟩, ⟨Bs 4 (fun t => C (i * 4 + t)), true⟩] ?_ ?_ <;> (try simp only [PTS])
        · (repeat (first | ((first | (refine And.intro ?_ ?_; focus exact PLA) | refine WA_seq (WA_region ?_) | refine WA_region ?_ | refine WA_exit ?_); try simp (maxSteps := 1000000) (disch := first | omega | rfl | decide | (simp only [LX] <;> omega)) only [go_sem, Nat.reduceAdd, Int.reduceAdd, Int.reduceSub, Int.reduceMul, BNS, yieldA_at 2 25, yieldA_at 2 114]) | (refine (WA_rb (id := 10) [9] (SubM.refl _) mixedOk ?_); simp only [LSZ]; (repeat' (first | ((first | (refine And.intro ?_ ?_; focus exact PLA) | refine RTk false [0, 1, 3, 4] 6 ?_ | refine RTk true [2, 5] 4 ?_ | refine RB_twoK 6 7 _ (by rfl) (by decide +kernel) (by first | (simp only [go_sem]; done) | fail) (by first | (simp only [go_sem]; done) | fail) ?_ ?_ | refine RB_keep 7 _ (by rfl) (by decide +kernel) (by first | (simp (disch := first | omega | decide) only [go_sem, List.getElem?_nil]; done) | fail) ?_ | refine RB_keep 8 _ (by rfl) (by decide +kernel) (by first | (simp (disch := first | omega | decide) only [go_sem, List.getElem?_nil]; done) | fail) ?_ | refine REx 9 ?_ | refine RB_done (by decide +kernel) ?_ | refine RB_keep 6 _ (by rfl) (by decide +kernel) (by first | (simp (disch := first | omega | decide) only [go_sem, List.getElem?_nil]; done) | fail) ?_) <;> try simp (maxSteps := 1000000) (disch := first | omega | rfl | decide | (simp only [LX] <;> omega)) only [go_sem, Nat.reduceAdd, Int.reduceAdd, Int.reduceSub, Int.reduceMul, BNS, yieldA_at 2 25, yieldA_at 2 114])))) | refine WA_seq ?_ | refine WA_block ?_ | (refine WA_skip ?_; try simp only [go_sem]) | (refine WA_ret ?_; try simp only [go_sem]) | refine WA_ct rfl ?_ | refine WA_cf rfl ?_))
          · (exact sS0)
          · (exact gC [0, 1, 2, 4, 3])
        · have hpe1 : swp A i kk = over (over A (i * 4) 4 (fun t => A (kk * 4 + t))) (kk * 4) 4 (fun t => A (i * 4 + t)) := rfl
          have hpe2 : swp C i kk = over (over C (i * 4) 4 (fun t => C (kk * 4 + t))) (kk * 4) 4 (fun t => C (i * 4 + t)) := rfl
          (repeat (first | ((first | (refine And.intro ?_ ?_; focus exact PLA) | ((first | with_reducible apply callB_i | with_reducible apply callK_intro | with_reducible apply callQ_i); (focus (first | assumption | ((first | with_reducible apply tmS_ac h0 h1 | with_reducible apply invS_ac h0 h1) <;> (first | assumption | rfl | (simp (disch := omega) only [go_sem]; first | done | rfl) | omega | decide | (simp; done))))); (try exact WP_au)) | refine WA_seq (WA_region ?_) | refine WA_region ?_ | refine WA_exit ?_); try simp (maxSteps := 1000000) (disch := first | omega | rfl | decide | (simp only [LX] <;> omega)) only [go_sem, Nat.reduceAdd, Int.reduceAdd, Int.reduceSub, Int.reduceMul, BNS, ← hpe1, ← hpe2, yieldA_at 2 25, yieldA_at 2 114]) | refine WA_seq ?_ | refine WA_block ?_ | (refine WA_skip ?_; try simp only [go_sem]) | (refine WA_ret ?_; try simp only [go_sem]) | refine WA_ct rfl ?_ | refine WA_cf rfl ?_))
          clear hpe1 hpe2
          generalize swp A i kk = A1
          generalize swp C i kk = C1
          generalize hv : inv m (A1 (kk * 4 + kk)) = v
          refine WA_forP (fun k => [(13, .int .i64 k), (75, J), (76, J), (77, J), (78, J), (79, J), (80, J), (81, J), (82, J), (83, J), (84, J), (85, J), (86, J), (87, J), (88, J), (89, J), (90, J), (91, J), (92, J), (93, J), (94, J), (95, J), (96, J), (97, J), (98, J), (99, J), (100, J), (101, J), (102, J)]) (fun k => [(0, ⟨Bs 16 (scl m A1 kk v k), true⟩), (2, ⟨Bs 16 (scl m C1 kk v k), true⟩)]) (4) ?_ ?_ ?_ <;> (try simp only [PTS])
          · rw [scl_zero, scl_zero]
            (exact sS0)
          · intro j hj
            (repeat (first | ((first | (refine And.intro ?_ ?_; focus exact PLA) | ((first | with_reducible apply callB_i | with_reducible apply callK_intro | with_reducible apply callQ_i); (focus (first | assumption | (with_reducible apply tmS_ac h0 h1 <;> (first | assumption | rfl | (simp (disch := omega) only [go_sem]; first | done | rfl) | omega | decide | (simp; done))))); (try exact WP_au)) | refine WA_seq (WA_region ?_) | refine WA_region ?_ | refine WA_exit ?_); try simp (maxSteps := 1000000) (disch := first | omega | rfl | decide | (simp only [LX] <;> omega)) only [go_sem, Nat.reduceAdd, Int.reduceAdd, Int.reduceSub, Int.reduceMul, BNS, scl_at, scl_set, yieldA_at 2 25, yieldA_at 2 114]) | (refine (WA_rb (id := 20) [12] (SubM.refl _) mixedOk ?_); simp only [LSZ]; (repeat (first | ((first | (refine And.intro ?_ ?_; focus exact PLA) | ((first | with_reducible apply callB_i | with_reducible apply callK_intro | with_reducible apply callQ_i); (focus (first | assumption | (with_reducible apply tmS_ac h0 h1 <;> (first | assumption | rfl | (simp (disch := omega) only [go_sem]; first | done | rfl) | omega | decide | (simp; done))))); (try exact WP_au)) | refine RTk false [0, 1, 2, 3, 4, 5, 6, 8, 10] 4 ?_ | refine RTk true [7, 9] 2 ?_ | refine RTk false [11] 1 ?_ | refine REx 12 ?_ | refine RB_done (by decide +kernel) ?_); try simp (maxSteps := 1000000) (disch := first | omega | rfl | decide | (simp only [LX] <;> omega)) only [go_sem, Nat.reduceAdd, Int.reduceAdd, Int.reduceSub, Int.reduceMul, BNS, scl_at, scl_set, yieldA_at 2 25, yieldA_at 2 114])))) | (refine (WA_rb (id := 21) [12] (SubM.refl _) mixedOk ?_); simp only [LSZ]; (repeat (first | ((first | (refine And.intro ?_ ?_; focus exact PLA) | ((first | with_reducible apply callB_i | with_reducible apply callK_intro | with_reducible apply callQ_i); (focus (first | assumption | (with_reducible apply tmS_ac h0 h1 <;> (first | assumption | rfl | (simp (disch := omega) only [go_sem]; first | done | rfl) | omega | decide | (simp; done))))); (try exact WP_au)) | refine RTk false [0, 1, 2, 3, 4, 5, 6, 8, 10] 4 ?_ | refine RTk true [7, 9] 2 ?_ | refine RTk false [11] 1 ?_ | refine REx 12 ?_ | refine RB_done (by decide +kernel) ?_); try simp (maxSteps := 1000000) (disch := first | omega | rfl | decide | (simp only [LX] <;> omega)) only [go_sem, Nat.reduceAdd, Int.reduceAdd, Int.reduceSub, Int.reduceMul, BNS, scl_at, scl_set, yieldA_at 2 25, yieldA_at 2 114])))) | refine WA_seq ?_ | refine WA_block ?_ | (refine WA_skip ?_; try simp only [go_sem]) | (refine WA_ret ?_; try simp only [go_sem]) | refine WA_ct rfl ?_ | refine WA_cf rfl ?_))
            (exact sS0)
          · (refine sN (And.intro (@yieldA_at 2 25) (@yieldA_at 2 114)) ?_)
            generalize scl m A1 kk v 4 = A2
            generalize scl m C1 kk v 4 = C2
            refine WA_forP (fun k => [(14, .int .i64 k), (15, J), (16, J), (103, J), (104, J), (105, J), (106, J), (107, J), (108, J), (109, J), (110, J), (111, J), (112, J), (113, J), (114, J), (115, J), (116, J), (117, J), (118, J), (119, J), (120, J), (121, J), (122, J), (123, J), (124, J), (125, J), (126, J), (127, J), (128, J), (129, J), (130, J), (131, J), (132, J), (133, J), (134, J), (135, J), (136, J), (137, J), (138, J), (139, J), (140, J), (141, J), (142, J), (143, J), (144, J), (145, J), (146, J), (147, J), (148, J), (149, J), (150, J), (151, J), (152, J), (153, J), (154, J), (155, J), (156, J)]) (fun k => [(0, ⟨Bs 16 (elN m kk A2 C2 k).1, true⟩), (2, ⟨Bs 16 (elN m kk A2 C2 k).2, true⟩)]) (4) ?_ ?_ ?_ <;> (try simp only [PTS])
            · (exact sS0)
            · intro r hr
              by_cases hrk : r = kk
              · subst hrk
                (refine sN (And.intro (@yieldA_at 2 25) (@yieldA_at 2 114)) ?_)
                refine WA_forP (fun k => [(16, .int .i64 k), (112, J), (113, J), (114, J), (115, J), (116, J), (117, J), (118, J), (119, J), (120, J), (121, J), (122, J), (123, J), (124, J), (125, J), (126, J), (127, J), (128, J), (129, J), (130, J), (131, J), (132, J), (133, J), (134, J), (135, J), (136, J), (137, J), (138, J), (139, J), (140, J), (141, J), (142, J), (143, J), (144, J), (145, J), (146, J), (147, J), (148, J), (149, J), (150, J), (151, J), (152, J), (153, J), (154, J), (155, J), (156, J)]) (fun k => []) (0) ?_ ?_ ?_ <;> (try simp only [PTS])
                · (exact sS0)
                · intro j hj
                  omega
                · (repeat (first | ((first | (refine And.intro ?_ ?_; focus exact PLA) | refine WA_seq (WA_region ?_) | refine WA_region ?_ | refine WA_exit ?_); try simp (maxSteps := 1000000) (disch := first | omega | rfl | decide | (simp only [LX] <;> omega)) only [go_sem, Nat.reduceAdd, Int.reduceAdd, Int.reduceSub, Int.reduceMul, BNS, Nat.reduceLT, Int.reduceLT, decide_true, yieldA_at 2 25, yieldA_at 2 114]) | refine WA_seq ?_ | refine WA_block ?_ | (refine WA_skip ?_; try simp only [go_sem]) | (refine WA_ret ?_; try simp only [go_sem]) | refine WA_ct rfl ?_ | refine WA_cf rfl ?_))
                  rw [elN_same]
                  (exact sS0)
              · rw [elN_other hrk]
                generalize elN m kk A2 C2 r = p
                obtain ⟨A3, C3⟩ := p
                simp only []
                (refine sN (And.intro (@yieldA_at 2 25) (@yieldA_at 2 114)) ?_)
                generalize hf : A3 (r * 4 + kk) = f
                refine WA_forP (fun k => [(16, .int .i64 k), (112, J), (113, J), (114, J), (115, J), (116, J), (117, J), (118, J), (119, J), (120, J), (121, J), (122, J), (123, J), (124, J), (125, J), (126, J), (127, J), (128, J), (129, J), (130, J), (131, J), (132, J), (133, J), (134, J), (135, J), (136, J), (137, J), (138, J), (139, J), (140, J), (141, J), (142, J), (143, J), (144, J), (145, J), (146, J), (147, J), (148, J), (149, J), (150, J), (151, J), (152, J), (153, J), (154, J), (155, J), (156, J)]) (fun k => [(0, ⟨Bs 16 (elm m f kk r A3 k), true⟩), (2, ⟨Bs 16 (elm m f kk r C3 k), true⟩)]) (4) ?_ ?_ ?_ <;> (try simp only [PTS])
                · rw [elm_zero, elm_zero]
                  (exact sS0)
                · intro j hj
                  have hkey1 := elm_key (m := m) (f := f) (x := A3) (j := j) hrk hj (by omega)
                  have hkey2 := elm_key (m := m) (f := f) (x := C3) (j := j) hrk hj (by omega)
                  have hdj := decide_eq_true hj
                  have hne : (r != kk) = true := bne_iff_ne.2 hrk
                  (repeat (first | ((first | (refine And.intro ?_ ?_; focus exact PLA) | ((first | with_reducible apply callB_i | with_reducible apply callK_intro | with_reducible apply callQ_i); (focus (first | assumption | (with_reducible apply tmS_ac h0 h1 <;> (first | assumption | rfl | (simp (disch := omega) only [go_sem]; first | done | rfl) | omega | decide | (simp; done))))); (try exact WP_au)) | refine WA_seq (WA_region ?_) | refine WA_region ?_ | refine WA_exit ?_); try simp (maxSteps := 1000000) (disch := first | omega | rfl | decide | (simp only [LX] <;> omega)) only [go_sem, Nat.reduceAdd, Int.reduceAdd, Int.reduceSub, Int.reduceMul, BNS, elm_at, elm_set, hkey1, hkey2, hdj, hne, yieldA_at 2 25, yieldA_at 2 114]) | (refine (WA_rb (id := 29) [18] (SubM.refl _) mixedOk ?_); simp only [LSZ]; (repeat (first | ((first | (refine And.intro ?_ ?_; focus exact PLA) | ((first | with_reducible apply callB_i | with_reducible apply callK_intro | with_reducible apply callQ_i); (focus (first | assumption | (with_reducible apply tmS_ac h0 h1 <;> (first | assumption | rfl | (simp (disch := omega) only [go_sem]; first | done | rfl) | omega | decide | (simp; done))))); (try exact WP_au)) | refine RTk false [0, 1, 2, 3, 4, 5, 7, 8, 9, 10, 11, 12, 16] 6 ?_ | refine RTk true [6, 13, 14] 3 ?_ | refine RTk false [15, 17] 1 ?_ | refine REx 18 ?_ | refine RB_done (by decide +kernel) ?_); try simp (maxSteps := 1000000) (disch := first | omega | rfl | decide | (simp only [LX] <;> omega)) only [go_sem, Nat.reduceAdd, Int.reduceAdd, Int.reduceSub, Int.reduceMul, BNS, elm_at, elm_set, hkey1, hkey2, hdj, hne, yieldA_at 2 25, yieldA_at 2 114])))) | (refine (WA_rb (id := 30) [18] (SubM.refl _) mixedOk ?_); simp only [LSZ]; (repeat (first | ((first | (refine And.intro ?_ ?_; focus exact PLA) | ((first | with_reducible apply callB_i | with_reducible apply callK_intro | with_reducible apply callQ_i); (focus (first | assumption | (with_reducible apply tmS_ac h0 h1 <;> (first | assumption | rfl | (simp (disch := omega) only [go_sem]; first | done | rfl) | omega | decide | (simp; done))))); (try exact WP_au)) | refine RTk false [0, 1, 2, 3, 4, 5, 7, 8, 9, 10, 11, 12, 16] 6 ?_ | refine RTk true [6, 13, 14] 3 ?_ | refine RTk false [15, 17] 1 ?_ | refine REx 18 ?_ | refine RB_done (by decide +kernel) ?_); try simp (maxSteps := 1000000) (disch := first | omega | rfl | decide | (simp only [LX] <;> omega)) only [go_sem, Nat.reduceAdd, Int.reduceAdd, Int.reduceSub, Int.reduceMul, BNS, elm_at, elm_set, hkey1, hkey2, hdj, hne, yieldA_at 2 25, yieldA_at 2 114])))) | refine WA_seq ?_ | refine WA_block ?_ | (refine WA_skip ?_; try simp only [go_sem]) | (refine WA_ret ?_; try simp only [go_sem]) | refine WA_ct rfl ?_ | refine WA_cf rfl ?_))
                  (exact sS0)
                · (repeat (first | ((first | (refine And.intro ?_ ?_; focus exact PLA) | refine WA_seq (WA_region ?_) | refine WA_region ?_ | refine WA_exit ?_); try simp (maxSteps := 1000000) (disch := first | omega | rfl | decide | (simp only [LX] <;> omega)) only [go_sem, Nat.reduceAdd, Int.reduceAdd, Int.reduceSub, Int.reduceMul, BNS, Nat.reduceLT, Int.reduceLT, decide_false, yieldA_at 2 25, yieldA_at 2 114]) | refine WA_seq ?_ | refine WA_block ?_ | (refine WA_skip ?_; try simp only [go_sem]) | (refine WA_ret ?_; try simp only [go_sem]) | refine WA_ct rfl ?_ | refine WA_cf rfl ?_))
                  (exact sS0)
            · (refine sN (And.intro (@yieldA_at 2 25) (@yieldA_at 2 114)) ?_)
              refine ⟨hnx, ?_⟩
              (exact gC [0, 1, 2])
  · intro hJ
    (repeat (first | ((first | (refine And.intro ?_ ?_; focus exact PLA) | refine WA_seq (WA_region ?_) | refine WA_region ?_ | refine WA_exit ?_); try simp (maxSteps := 1000000) (disch := first | omega | rfl | decide | (simp only [LX] <;> omega)) only [go_sem, Nat.reduceAdd, Int.reduceAdd, Int.reduceSub, Int.reduceMul, BNS, yieldA_at 2 25, yieldA_at 2 114]) | (refine (WA_rb (id := 31) [3] (SubM.refl _) mixedOk ?_); simp only [LSZ]; (repeat (first | ((first | (refine And.intro ?_ ?_; focus exact PLA) | refine RTk false [0, 2] 2 ?_ | refine RTk true [1] 1 ?_ | refine REx 3 ?_ | refine RB_done (by decide +kernel) ?_); try simp (maxSteps := 1000000) (disch := first | omega | rfl | decide | (simp only [LX] <;> omega)) only [go_sem, Nat.reduceAdd, Int.reduceAdd, Int.reduceSub, Int.reduceMul, BNS, yieldA_at 2 25, yieldA_at 2 114])))) | refine WA_seq ?_ | refine WA_block ?_ | (refine WA_skip ?_; try simp only [go_sem]) | (refine WA_ret ?_; try simp only [go_sem]) | refine WA_ct rfl ?_ | refine WA_cf rfl ?_))
    (exact sR (And.intro @detF.eq_1 (And.intro @backF.eq_1 @hJ)))

end Go.Proofs.YtenkjbkcdcionaaGreat
/- Reducing a matrix: the program. -/
namespace Go.Proofs.YtenkjbkcdcionaaGreat
set_option linter.unusedSimpArgs false
set_option linter.unusedVariables false
set_option maxRecDepth 20000
set_option maxHeartbeats 1000000
open Go.Abs

set_option maxHeartbeats 8000000 in
theorem redI_ac {m : Nat} (h0 : 256 ≤ m) (h1 : m < 512) (a : Nat → UInt8) (h : List Blk) : AC Tryz.prog 67 [.int .i64 m, .agg (Bs 16 a).toArray] h (.tuple #[B (detF m a), .agg (Bs 16 (backF m a)).toArray]) h := by
  (refine AC_begin (fun _ _ => Tryz.call67 _ _) Tryz.func67 rfl Tryz.ntmps67 Tryz.results67 (fun hwf => ?_); simp only [LCN, Nat.reduceAdd, Nat.reduceSub, List.replicate])
  (refine sW (And.intro (@yieldA_at 2 22) (@yieldA_at 3 109)) @unitI_ac ?_)
  refine WA_forPJ (fun k => sing m a k = false) (fun k => [(4, J), (7, B (rs m a k).d), (8, J), (9, J), (10, J), (11, J), (12, J), (13, J), (14, J), (16, .int .i64 k), (17, J), (18, J), (19, J), (20, J), (21, J), (22, J), (23, J), (24, J), (25, J), (26, J), (27, J), (28, J), (29, J), (30, J), (31, J), (32, J), (33, J), (34, J), (35, J), (36, J), (37, J), (38, J), (39, J), (40, J), (41, J), (42, J), (43, J), (44, J), (45, J), (46, J), (47, J), (48, J), (49, J), (50, J), (51, J), (52, J), (53, J), (54, J), (55, J), (56, J), (57, J), (58, J), (59, J), (60, J), (61, J), (62, J), (63, J), (64, J), (65, J), (66, J), (67, J), (68, J), (69, J), (70, J), (71, J), (72, J), (73, J), (74, J), (75, J), (76, J), (77, J), (78, J), (79, J), (80, J), (81, J), (82, J), (83, J), (84, J), (85, J), (86, J), (87, J), (88, J), (89, J), (90, J), (91, J), (92, J), (93, J), (94, J), (95, J), (96, J), (97, J), (98, J), (99, J), (100, J), (101, J), (102, J), (103, J), (104, J), (105, J), (106, J), (107, J), (108, J), (109, J), (110, J), (111, J), (112, J), (113, J), (114, J), (115, J), (116, J), (117, J), (118, J), (119, J), (120, J), (121, J), (122, J), (123, J), (124, J), (125, J), (126, J), (127, J), (128, J), (129, J), (130, J), (131, J), (132, J), (133, J), (134, J), (135, J), (136, J), (137, J), (138, J), (139, J), (140, J), (141, J), (142, J), (143, J), (144, J), (145, J), (146, J), (147, J), (148, J), (149, J), (150, J)]) (fun k => [(0, ⟨Bs 16 (rs m a k).a, true⟩), (2, ⟨Bs 16 (rs m a k).b, true⟩)]) (4) ?_ ?_ ?_ ?_ <;> (try simp only [PTS])
  · rfl
  · (refine Drop_slots (by first | exact Nat.le_refl _ | simp) ?_; focus ((try simp only [JL_same, JL_J, JL_nil, Int.reduceAdd, Nat.sub_sub, ICS, Bool.false_eq_true, if_false, if_true, rs]); (try exact JL_refl _)))
  · intro kk hk hJ
    have hs : rs m a (kk + 1) = stepR m kk (rs m a kk) := rfl
    rw [hs]
    have hmono := sing_mono (m := m) (a := a) hk
    have hnext := sing_next hJ
    clear hs hJ
    generalize rs m a kk = s at *
    obtain ⟨A, C, d⟩ := s
    simp only [] at *
    unfold stepR
    simp only []
    have hpl := piv_le A hk
    have hpe : piv A kk = kk + pivC A kk := rfl
    (refine sN (And.intro (@yieldA_at 2 22) (@yieldA_at 3 109)) ?_)
    refine WA_forP (fun k => [(9, .int .i64 ((kk + k : Nat))), (20, J), (21, J), (22, J), (23, J), (24, J), (25, J), (26, J), (27, J), (28, J), (29, J), (30, J), (31, J)]) (fun k => []) (pivC A kk) ?_ ?_ ?_ <;> (try simp only [PTS])
    · (exact sS0)
    · intro r hr
      have hg := piv_go hr
      have hg2 := hg.2
      have hd := decide_eq_true hg.1
      (refine sN (And.intro @hg2 (And.intro @hd (And.intro (@yieldA_at 2 22) (@yieldA_at 3 109)))) ?_)
      (exact sS @Nat.add_assoc)
    · by_cases h4 : piv A kk = 4
      · have h4' : kk + pivC A kk = 4 := h4
        have hd : decide (kk + pivC A kk < 4) = false := decide_eq_false (by omega)
        (refine sN (And.intro @hd (And.intro (@yieldA_at 2 22) (@yieldA_at 3 109))) ?_)
        (exact sR (And.intro @detF.eq_1 (And.intro @backF.eq_1 (And.intro (hmono h4) @zeroF.eq_1))))
      · have hpf := piv_end (a := A) hk (by omega)
        have hnx := hnext h4
        clear hmono hnext
        rw [← hpe]
        have hi4 : piv A kk < 4 := by omega
        clear hpl hpe h4
        generalize piv A kk = i at *
        have hd := decide_eq_true hi4
        have hpe1 : swp A i kk = over (over A (i * 4) 4 (fun t => A (kk * 4 + t))) (kk * 4) 4 (fun t => A (i * 4 + t)) := rfl
        have hpe2 : swp C i kk = over (over C (i * 4) 4 (fun t => C (kk * 4 + t))) (kk * 4) 4 (fun t => C (i * 4 + t)) := rfl
        (repeat (first | ((first | (refine And.intro ?_ ?_; focus exact PLA) | ((first | with_reducible apply callB_i | with_reducible apply callK_intro | with_reducible apply callQ_i); (focus (first | assumption | ((first | with_reducible apply tmI_ac h0 h1 | with_reducible apply invI_ac h0 h1) <;> (first | assumption | rfl | (simp (disch := omega) only [go_sem]; first | done | rfl) | omega | decide | (simp; done))))); (try exact WP_au)) | refine WA_seq (WA_region ?_) | refine WA_region ?_ | refine WA_exit ?_); try simp (maxSteps := 1000000) (disch := first | omega | rfl | decide | (simp only [LX] <;> omega)) only [go_sem, Nat.reduceAdd, Int.reduceAdd, Int.reduceSub, Int.reduceMul, BNS, hpf, hd, ← hpe1, ← hpe2, yieldA_at 2 22, yieldA_at 3 109]) | (refine (WA_rb (id := 10) [9, 11] (SubM.refl _) mixedOk ?_); simp only [LSZ]; (repeat (first | ((first | (refine And.intro ?_ ?_; focus exact PLA) | refine RTk false [0, 1, 2, 3, 5, 6] 6 ?_ | refine RTk true [4, 7] 4 ?_ | refine RTk false [8] 3 ?_ | refine REx 9 ?_ | refine RTk false [10] 1 ?_ | refine REx 11 ?_ | refine RB_done (by decide +kernel) ?_); try simp (maxSteps := 1000000) (disch := first | omega | rfl | decide | (simp only [LX] <;> omega)) only [go_sem, Nat.reduceAdd, Int.reduceAdd, Int.reduceSub, Int.reduceMul, BNS, hpf, hd, ← hpe1, ← hpe2, yieldA_at 2 22, yieldA_at 3 109])))) | (refine (WA_rb (id := 11) [9, 11] (SubM.refl _) mixedOk ?_); simp only [LSZ]; (repeat (first | ((first | (refine And.intro ?_ ?_; focus exact PLA) | refine RTk false [0, 1, 2, 3, 5, 6] 6 ?_ | refine RTk true [4, 7] 4 ?_ | refine RTk false [8] 3 ?_ | refine REx 9 ?_ | refine RTk false [10] 1 ?_ | refine REx 11 ?_ | refine RB_done (by decide +kernel) ?_); try simp (maxSteps := 1000000) (disch := first | omega | rfl | decide | (simp only [LX] <;> omega)) only [go_sem, Nat.reduceAdd, Int.reduceAdd, Int.reduceSub, Int.reduceMul, BNS, hpf, hd, ← hpe1, ← hpe2, yieldA_at 2 22, yieldA_at 3 109])))) | refine WA_seq ?_ | refine WA_block ?_ | (refine WA_skip ?_; try simp only [go_sem]) | (refine WA_ret ?_; try simp only [go_sem]) | refine WA_ct rfl ?_ | refine WA_cf rfl ?_))
        clear hpe1 hpe2
        generalize swp A i kk = A1
        generalize swp C i kk = C1
        generalize hv : inv m (A1 (kk * 4 + kk)) = v
        refine WA_forP (fun k => [(11, J), (70, .int .i64 k), (71, J), (72, J), (73, J), (74, J), (75, J), (76, J), (77, J), (78, J), (79, J), (80, J), (81, J), (82, J), (83, J), (84, J), (85, J), (86, J), (87, J), (88, J), (89, J), (90, J), (91, J), (92, J), (93, J), (94, J), (95, J), (96, J), (97, J)]) (fun k => [(0, ⟨Bs 16 (scl m A1 kk v k), true⟩), (2, ⟨Bs 16 (scl m C1 kk v k), true⟩)]) (4) ?_ ?_ ?_ <;> (try simp only [PTS])
        · rw [scl_zero, scl_zero]
          (exact sS0)
        · intro j hj
          (repeat (first | ((first | (refine And.intro ?_ ?_; focus exact PLA) | ((first | with_reducible apply callB_i | with_reducible apply callK_intro | with_reducible apply callQ_i); (focus (first | assumption | (with_reducible apply tmI_ac h0 h1 <;> (first | assumption | rfl | (simp (disch := omega) only [go_sem]; first | done | rfl) | omega | decide | (simp; done))))); (try exact WP_au)) | refine WA_seq (WA_region ?_) | refine WA_region ?_ | refine WA_exit ?_); try simp (maxSteps := 1000000) (disch := first | omega | rfl | decide | (simp only [LX] <;> omega)) only [go_sem, Nat.reduceAdd, Int.reduceAdd, Int.reduceSub, Int.reduceMul, BNS, scl_at, scl_set, yieldA_at 2 22, yieldA_at 3 109]) | (refine (WA_rb (id := 17) [22, 25] (SubM.refl _) mixedOk ?_); simp only [LSZ]; (repeat (first | ((first | (refine And.intro ?_ ?_; focus exact PLA) | ((first | with_reducible apply callB_i | with_reducible apply callK_intro | with_reducible apply callQ_i); (focus (first | assumption | (with_reducible apply tmI_ac h0 h1 <;> (first | assumption | rfl | (simp (disch := omega) only [go_sem]; first | done | rfl) | omega | decide | (simp; done))))); (try exact WP_au)) | refine RTk false [0, 1, 2, 3, 4, 5, 6, 7, 8, 10, 12, 13, 14, 15, 16, 18, 20, 23] 8 ?_ | refine RTk true [9, 11, 17, 19] 4 ?_ | refine RTk false [21] 3 ?_ | refine REx 22 ?_ | refine RTk false [24] 1 ?_ | refine REx 25 ?_ | refine RB_done (by decide +kernel) ?_); try simp (maxSteps := 1000000) (disch := first | omega | rfl | decide | (simp only [LX] <;> omega)) only [go_sem, Nat.reduceAdd, Int.reduceAdd, Int.reduceSub, Int.reduceMul, BNS, scl_at, scl_set, yieldA_at 2 22, yieldA_at 3 109])))) | refine WA_seq ?_ | refine WA_block ?_ | (refine WA_skip ?_; try simp only [go_sem]) | (refine WA_ret ?_; try simp only [go_sem]) | refine WA_ct rfl ?_ | refine WA_cf rfl ?_))
          (exact sS0)
        · (refine sN (And.intro (@yieldA_at 2 22) (@yieldA_at 3 109)) ?_)
          generalize scl m A1 kk v 4 = A2
          generalize scl m C1 kk v 4 = C2
          refine WA_forP (fun k => [(12, J), (13, J), (14, J), (98, .int .i64 k), (99, J), (100, J), (101, J), (102, J), (103, J), (104, J), (105, J), (106, J), (107, J), (108, J), (109, J), (110, J), (111, J), (112, J), (113, J), (114, J), (115, J), (116, J), (117, J), (118, J), (119, J), (120, J), (121, J), (122, J), (123, J), (124, J), (125, J), (126, J), (127, J), (128, J), (129, J), (130, J), (131, J), (132, J), (133, J), (134, J), (135, J), (136, J), (137, J), (138, J), (139, J), (140, J), (141, J), (142, J), (143, J), (144, J), (145, J), (146, J), (147, J), (148, J), (149, J)]) (fun k => [(0, ⟨Bs 16 (elN m kk A2 C2 k).1, true⟩), (2, ⟨Bs 16 (elN m kk A2 C2 k).2, true⟩)]) (4) ?_ ?_ ?_ <;> (try simp only [PTS])
          · (exact sS0)
          · intro r hr
            by_cases hrk : r = kk
            · subst hrk
              have hne : (r != r) = false := bne_self_eq_false r
              (refine sN (And.intro @hne (And.intro (@yieldA_at 2 22) (@yieldA_at 3 109))) ?_)
              rw [elN_same]
              (exact sS0)
            · have hne : (r != kk) = true := bne_iff_ne.2 hrk
              cases hz : (elN m kk A2 C2 r).1 (r * 4 + kk) != 0
              · (refine sN (And.intro @hne (And.intro @hz (And.intro (@yieldA_at 2 22) (@yieldA_at 3 109)))) ?_)
                rw [elN_f0 (by simpa using hz)]
                (exact sS0)
              · rw [elN_other hrk]
                generalize elN m kk A2 C2 r = p at *
                obtain ⟨A3, C3⟩ := p
                simp only [] at *
                (refine sN (And.intro @hne (And.intro @hz (And.intro (@yieldA_at 2 22) (@yieldA_at 3 109)))) ?_)
                generalize hf : A3 (r * 4 + kk) = f
                refine WA_forP (fun k => [(14, J), (113, .int .i64 k), (114, J), (115, J), (116, J), (117, J), (118, J), (119, J), (120, J), (121, J), (122, J), (123, J), (124, J), (125, J), (126, J), (127, J), (128, J), (129, J), (130, J), (131, J), (132, J), (133, J), (134, J), (135, J), (136, J), (137, J), (138, J), (139, J), (140, J), (141, J), (142, J), (143, J), (144, J), (145, J), (146, J), (147, J), (148, J)]) (fun k => [(0, ⟨Bs 16 (elm m f kk r A3 k), true⟩), (2, ⟨Bs 16 (elm m f kk r C3 k), true⟩)]) (4) ?_ ?_ ?_ <;> (try simp only [PTS])
                · rw [elm_zero, elm_zero]
                  (exact sS0)
                · intro j hj
                  have hkey1 := elm_key (m := m) (f := f) (x := A3) (j := j) hrk hj (by omega)
                  have hkey2 := elm_key (m := m) (f := f) (x := C3) (j := j) hrk hj (by omega)
                  (repeat (first | ((first | (refine And.intro ?_ ?_; focus exact PLA) | ((first | with_reducible apply callB_i | with_reducible apply callK_intro | with_reducible apply callQ_i); (focus (first | assumption | (with_reducible apply tmI_ac h0 h1 <;> (first | assumption | rfl | (simp (disch := omega) only [go_sem]; first | done | rfl) | omega | decide | (simp; done))))); (try exact WP_au)) | refine WA_seq (WA_region ?_) | refine WA_region ?_ | refine WA_exit ?_); try simp (maxSteps := 1000000) (disch := first | omega | rfl | decide | (simp only [LX] <;> omega)) only [go_sem, Nat.reduceAdd, Int.reduceAdd, Int.reduceSub, Int.reduceMul, BNS, elm_at, elm_set, hkey1, hkey2, yieldA_at 2 22, yieldA_at 3 109]) | (refine (WA_rb (id := 27) [16] (SubM.refl _) mixedOk ?_); simp only [LSZ]; (repeat (first | ((first | (refine And.intro ?_ ?_; focus exact PLA) | ((first | with_reducible apply callB_i | with_reducible apply callK_intro | with_reducible apply callQ_i); (focus (first | assumption | (with_reducible apply tmI_ac h0 h1 <;> (first | assumption | rfl | (simp (disch := omega) only [go_sem]; first | done | rfl) | omega | decide | (simp; done))))); (try exact WP_au)) | refine RTk false [0, 1, 2, 3, 5, 6, 7, 8, 9, 10, 14] 6 ?_ | refine RTk true [4, 11, 12] 3 ?_ | refine RTk false [13, 15] 1 ?_ | refine REx 16 ?_ | refine RB_done (by decide +kernel) ?_); try simp (maxSteps := 1000000) (disch := first | omega | rfl | decide | (simp only [LX] <;> omega)) only [go_sem, Nat.reduceAdd, Int.reduceAdd, Int.reduceSub, Int.reduceMul, BNS, elm_at, elm_set, hkey1, hkey2, yieldA_at 2 22, yieldA_at 3 109])))) | (refine (WA_rb (id := 28) [16] (SubM.refl _) mixedOk ?_); simp only [LSZ]; (repeat (first | ((first | (refine And.intro ?_ ?_; focus exact PLA) | ((first | with_reducible apply callB_i | with_reducible apply callK_intro | with_reducible apply callQ_i); (focus (first | assumption | (with_reducible apply tmI_ac h0 h1 <;> (first | assumption | rfl | (simp (disch := omega) only [go_sem]; first | done | rfl) | omega | decide | (simp; done))))); (try exact WP_au)) | refine RTk false [0, 1, 2, 3, 5, 6, 7, 8, 9, 10, 14] 6 ?_ | refine RTk true [4, 11, 12] 3 ?_ | refine RTk false [13, 15] 1 ?_ | refine REx 16 ?_ | refine RB_done (by decide +kernel) ?_); try simp (maxSteps := 1000000) (disch := first | omega | rfl | decide | (simp only [LX] <;> omega)) only [go_sem, Nat.reduceAdd, Int.reduceAdd, Int.reduceSub, Int.reduceMul, BNS, elm_at, elm_set, hkey1, hkey2, yieldA_at 2 22, yieldA_at 3 109])))) | refine WA_seq ?_ | refine WA_block ?_ | (refine WA_skip ?_; try simp only [go_sem]) | (refine WA_ret ?_; try simp only [go_sem]) | refine WA_ct rfl ?_ | refine WA_cf rfl ?_))
                  (exact sS0)
                · (refine sN (And.intro (@yieldA_at 2 22) (@yieldA_at 3 109)) ?_)
                  (exact sS0)
          · (refine sN (And.intro (@yieldA_at 2 22) (@yieldA_at 3 109)) ?_)
            refine ⟨hnx, ?_⟩
            (exact sS0)
  · intro hJ
    (repeat (first | ((first | (refine And.intro ?_ ?_; focus exact PLA) | refine WA_seq (WA_region ?_) | refine WA_region ?_ | refine WA_exit ?_); try simp (maxSteps := 1000000) (disch := first | omega | rfl | decide | (simp only [LX] <;> omega)) only [go_sem, Nat.reduceAdd, Int.reduceAdd, Int.reduceSub, Int.reduceMul, BNS, yieldA_at 2 22, yieldA_at 3 109]) | (refine (WA_rb (id := 32) [3] (SubM.refl _) mixedOk ?_); simp only [LSZ]; (repeat (first | ((first | (refine And.intro ?_ ?_; focus exact PLA) | refine RTk false [0, 2] 2 ?_ | refine RTk true [1] 1 ?_ | refine REx 3 ?_ | refine RB_done (by decide +kernel) ?_); try simp (maxSteps := 1000000) (disch := first | omega | rfl | decide | (simp only [LX] <;> omega)) only [go_sem, Nat.reduceAdd, Int.reduceAdd, Int.reduceSub, Int.reduceMul, BNS, yieldA_at 2 22, yieldA_at 3 109])))) | refine WA_seq ?_ | refine WA_block ?_ | (refine WA_skip ?_; try simp only [go_sem]) | (refine WA_ret ?_; try simp only [go_sem]) | refine WA_ct rfl ?_ | refine WA_cf rfl ?_))
    (exact sR (And.intro @detF.eq_1 (And.intro @backF.eq_1 @hJ)))

end Go.Proofs.YtenkjbkcdcionaaGreat
/- DeterminantIn, InverseMatrix. -/
namespace Go.Proofs.YtenkjbkcdcionaaGreat
set_option linter.unusedSimpArgs false
set_option linter.unusedVariables false
set_option maxRecDepth 20000
set_option maxHeartbeats 1000000
open Go.Abs

theorem inverseS_ac {m : Nat} (h0 : 256 ≤ m) (h1 : m < 512) (a : Nat → UInt8) (h : List Blk) : AC Tryz.prog 60 [.int .i64 m, .agg (Bs 16 a).toArray] h (.tuple #[.agg (Bs 16 (backF m a)).toArray, .bool (detF m a != 0)]) h := by
  (refine AC_begin (fun _ _ => Tryz.call60 _ _) Tryz.func60 rfl Tryz.ntmps60 Tryz.results60 (fun hwf => ?_); simp only [LCN, Nat.reduceAdd, Nat.reduceSub, List.replicate])
  (refine sW0 (redS_ac h0 h1) ?_)
  (exact sR0)

end Go.Proofs.YtenkjbkcdcionaaGreat
/- Products in fields: laws of rings; permutations of finite sets. Plain Lean. -/
namespace Go.Proofs.YtenkjbkcdcionaaGreat
set_option linter.unusedSimpArgs false
set_option linter.unusedVariables false
set_option maxRecDepth 20000
set_option maxHeartbeats 1000000
open Go.Abs

theorem inj_surj : ∀ (n : Nat) (g : Nat → Nat), (∀ i, i < n → g i < n) → (∀ i j, i < n → j < n → g i = g j → i = j) → ∀ y, y < n → ∃ i, i < n ∧ g i = y
  | 0, _, _, _, y, hy => absurd hy (Nat.not_lt_zero y)
  | n + 1, g, hr, hi, y, hy => by
    by_cases hv : g n = n
    · by_cases hyn : y = n
      · exact ⟨n, by omega, by omega⟩
      · obtain ⟨i, h1, h2⟩ := inj_surj n g (fun i h => by
            have := hr i (by omega)
            rcases Nat.lt_or_ge (g i) n with h' | h'
            · exact h'
            · have := hi i n (by omega) (by omega) (by omega); omega) (fun i j h h' e => hi i j (by omega) (by omega) e) y (by omega)
        exact ⟨i, by omega, h2⟩
    · have hvn : g n < n := by have := hr n (by omega); omega
      have key := inj_surj n (fun i => if g i = n then g n else g i) (fun i h => by
          show (if g i = n then g n else g i) < n
          split
          · exact hvn
          · have := hr i (by omega); omega) (fun i j h h' e => by
          change (if g i = n then g n else g i) = (if g j = n then g n else g j) at e
          split at e <;> split at e
          · exact hi i j (by omega) (by omega) (by omega)
          · have := hi n j (by omega) (by omega) e; omega
          · have := hi i n (by omega) (by omega) e; omega
          · exact hi i j (by omega) (by omega) e)
      by_cases hy1 : y = g n
      · exact ⟨n, by omega, hy1.symm⟩
      · by_cases hyn : y = n
        · obtain ⟨i, h1, h2⟩ := key (g n) hvn
          change (if g i = n then g n else g i) = g n at h2
          split at h2
          · exact ⟨i, by omega, by omega⟩
          · have := hi i n (by omega) (by omega) h2; omega
        · obtain ⟨i, h1, h2⟩ := key y (by omega)
          change (if g i = n then g n else g i) = y at h2
          split at h2
          · exact absurd h2.symm hy1
          · exact ⟨i, by omega, h2⟩
theorem surj_inj (n : Nat) (g : Nat → Nat) (hr : ∀ i, i < n → g i < n) (hs : ∀ y, y < n → ∃ i, i < n ∧ g i = y) (i j : Nat) (h1 : i < n) (h2 : j < n) (e : g i = g j) : i = j := by
  have hc : ∀ y, ∃ i, y < n → i < n ∧ g i = y := fun y => by
    by_cases h : y < n
    · obtain ⟨i, hi⟩ := hs y h; exact ⟨i, fun _ => hi⟩
    · exact ⟨0, fun h' => absurd h' h⟩
  obtain ⟨k, hk⟩ := Classical.axiomOfChoice hc
  have hk' : ∀ y, y < n → k y < n ∧ g (k y) = y := hk
  have sj := inj_surj n k (fun i h => (hk' i h).1) (fun i j h h' e => by rw [← (hk' i h).2, ← (hk' j h').2, e])
  obtain ⟨y, hy, rfl⟩ := sj i h1
  obtain ⟨z, hz, rfl⟩ := sj j h2
  rw [(hk' y hy).2, (hk' z hz).2] at e; rw [e]
theorem mulP_xor (m a b c : Nat) : ∀ k, mulP m a (b ^^^ c) k = mulP m a b k ^^^ mulP m a c k
  | 0 => by simp [mulP]
  | k + 1 => by
    simp only [mulP, Nat.testBit_xor, mulP_xor m a b c k]
    cases b.testBit k <;> cases c.testBit k
    · rfl
    · simp only [Bool.false_xor, Bool.false_eq_true, if_true, if_false]; rw [Nat.xor_assoc]
    · simp only [Bool.xor_false, Bool.false_eq_true, if_true, if_false]; rw [Nat.xor_assoc, Nat.xor_assoc, Nat.xor_comm (mulP m a c k)]
    · simp only [Bool.xor_self, Bool.false_eq_true, if_true, if_false]
      rw [Nat.xor_assoc, Nat.xor_comm (dblN m a k), Nat.xor_assoc, Nat.xor_self, Nat.xor_zero]
theorem ofNat_xor (x y : Nat) : UInt8.ofNat (x ^^^ y) = UInt8.ofNat x ^^^ UInt8.ofNat y := by
  rw [← UInt8.toNat_inj, UInt8.toNat_xor]
  simp only [UInt8.toNat_ofNat']
  exact Nat.xor_mod_two_pow (n := 8)
theorem tm_xor (m : Nat) (a b c : UInt8) : tm m a (b ^^^ c) = tm m a b ^^^ tm m a c := by
  unfold tm mulN; rw [UInt8.toNat_xor, mulP_xor, ofNat_xor]
theorem pow_or {k l : Nat} (h : l < 2 ^ k) : 2 ^ k ||| l = 2 ^ k + l := by
  have := Nat.two_pow_add_eq_or_of_lt h 1; simpa using this.symm
theorem pow_xor {k l : Nat} (h : l < 2 ^ k) : 2 ^ k ^^^ l = 2 ^ k + l := by
  rw [← pow_or h]
  apply Nat.eq_of_testBit_eq
  intro i
  rw [Nat.testBit_xor, Nat.testBit_or, Nat.testBit_two_pow]
  by_cases hi : k = i
  · subst hi; rw [Nat.testBit_lt_two_pow h]; simp
  · simp [hi]
theorem tm_zeroR (m : Nat) (a : UInt8) : tm m a 0 = 0 := by
  have := tm_xor m a 0 0
  simpa using this

theorem xor_swap (a b c d : Nat) : (a ^^^ b) ^^^ (c ^^^ d) = (a ^^^ c) ^^^ (b ^^^ d) := by
  rw [Nat.xor_assoc, Nat.xor_assoc, ← Nat.xor_assoc b c d, ← Nat.xor_assoc c b d, Nat.xor_comm b c]
theorem ge_bit {x : Nat} (h : x < 256) : (256 ≤ 2 * x) ↔ x.testBit 7 = true := by
  constructor
  · intro h2; exact Nat.testBit_of_two_pow_le_and_two_pow_add_one_gt (i := 7) (by omega) (by omega)
  · intro h2
    have := Nat.ge_two_pow_of_testBit h2; omega
theorem dbl_bit (m : Nat) {x : Nat} (h : x < 256) : dbl m x = if x.testBit 7 then (2 * x) ^^^ m else 2 * x := by
  unfold dbl; simp only [ge_bit h]
theorem dbl_xor (m : Nat) {x y : Nat} (hx : x < 256) (hy : y < 256) : dbl m (x ^^^ y) = dbl m x ^^^ dbl m y := by
  rw [dbl_bit m hx, dbl_bit m hy, dbl_bit m (xor_lt (n := 8) hx hy), Nat.testBit_xor, two_xor]
  cases x.testBit 7 <;> cases y.testBit 7
  · rfl
  · simp only [Bool.false_xor, if_true, Bool.false_eq_true, if_false]; rw [Nat.xor_assoc]
  · simp only [Bool.xor_false, if_true, Bool.false_eq_true, if_false]; rw [Nat.xor_assoc, Nat.xor_assoc, Nat.xor_comm (2 * y)]
  · simp only [Bool.xor_self, if_true, Bool.false_eq_true, if_false]
    rw [xor_swap, Nat.xor_self, Nat.xor_zero]
section
variable {m : Nat} (h0 : 256 ≤ m) (h1 : m < 512)
include h0 h1
omit h0 h1 in
theorem dblN_dbl (a : Nat) : ∀ k, dblN m (dbl m a) k = dbl m (dblN m a k)
  | 0 => rfl
  | k + 1 => by show dbl m _ = dbl m _; rw [dblN_dbl a k]; rfl
theorem dblN_xor {x y : Nat} (hx : x < 256) (hy : y < 256) : ∀ k, dblN m (x ^^^ y) k = dblN m x k ^^^ dblN m y k
  | 0 => rfl
  | k + 1 => by show dbl m _ = dbl m _ ^^^ dbl m _; rw [dblN_xor hx hy k, dbl_xor m (dblN_lt h0 h1 hx k) (dblN_lt h0 h1 hy k)]
theorem mulP_dbl {a : Nat} (ha : a < 256) (b : Nat) : ∀ k, mulP m (dbl m a) b k = dbl m (mulP m a b k)
  | 0 => by simp [mulP, dbl]
  | k + 1 => by
    simp only [mulP, mulP_dbl ha b k, dblN_dbl a k]
    split
    · rw [dbl_xor m (mulP_lt h0 h1 ha k) (dblN_lt h0 h1 ha k)]
    · rfl
theorem mulP_xorL {x y : Nat} (hx : x < 256) (hy : y < 256) (b : Nat) : ∀ k, mulP m (x ^^^ y) b k = mulP m x b k ^^^ mulP m y b k
  | 0 => by simp [mulP]
  | k + 1 => by
    simp only [mulP, mulP_xorL hx hy b k, dblN_xor h0 h1 hx hy k]
    split
    · rw [xor_swap]
    · rfl
theorem mulN_dblN {a : Nat} (ha : a < 256) (b : Nat) : ∀ k, mulN m (dblN m a k) b = dblN m (mulN m a b) k
  | 0 => rfl
  | k + 1 => by
    show mulP m (dbl m (dblN m a k)) b 8 = dbl m (dblN m (mulN m a b) k)
    rw [mulP_dbl h0 h1 (dblN_lt h0 h1 ha k)]; exact congrArg _ (mulN_dblN ha b k)
theorem mulN_mulP {a : Nat} (ha : a < 256) (b c : Nat) : ∀ k, mulN m (mulP m a b k) c = mulP m (mulN m a c) b k
  | 0 => by
    show mulP m 0 c 8 = 0
    have := mulP_xorL h0 h1 (x := 0) (y := 0) (by omega) (by omega) c 8
    simpa using this
  | k + 1 => by
    simp only [mulP]
    split
    · rw [show mulN m (mulP m a b k ^^^ dblN m a k) c = mulN m (mulP m a b k) c ^^^ mulN m (dblN m a k) c from mulP_xorL h0 h1 (mulP_lt h0 h1 ha k) (dblN_lt h0 h1 ha k) c 8, mulN_mulP ha b c k, mulN_dblN h0 h1 ha c k]
    · exact mulN_mulP ha b c k
omit h0 h1 in
theorem dblN_one : ∀ k, k < 8 → dblN m 1 k = 2 ^ k
  | 0, _ => rfl
  | k + 1, h => by
    show dbl m (dblN m 1 k) = _
    have h2 : 2 ^ k < 128 := Nat.pow_lt_pow_right (n := 7) (by omega) (by omega)
    rw [dblN_one k (by omega)]; unfold dbl; rw [if_neg (by omega), Nat.pow_succ]; omega
omit h0 h1 in
theorem mulP_one (b : Nat) : ∀ k, k ≤ 8 → mulP m 1 b k = b % 2 ^ k
  | 0, _ => by simp [mulP, Nat.mod_one]
  | k + 1, h => by
    simp only [mulP, mulP_one b k (by omega), dblN_one k (by omega)]
    have hlt : b % 2 ^ k < 2 ^ k := Nat.mod_lt _ (Nat.two_pow_pos k)
    have e := Nat.mod_pow_succ (x := b) (b := 2) (k := k)
    have ht : b.testBit k = decide (b / 2 ^ k % 2 = 1) := Nat.testBit_eq_decide_div_mod_eq
    rw [e, ht]
    rcases Nat.mod_two_eq_zero_or_one (b / 2 ^ k) with h2 | h2 <;> rw [h2]
    · simp
    · rw [if_pos (by simp), Nat.xor_comm, pow_xor hlt]; omega
omit h0 h1 in
theorem mulN_one {b : Nat} (hb : b < 256) : mulN m 1 b = b := by
  unfold mulN; rw [mulP_one b 8 (by omega)]; exact Nat.mod_eq_of_lt hb
theorem mulN_comm {a b : Nat} (ha : a < 256) (hb : b < 256) : mulN m a b = mulN m b a := by
  have e := mulN_mulP h0 h1 (a := 1) (by omega) a b 8
  rw [show mulP m 1 a 8 = a from mulN_one ha, mulN_one hb] at e
  exact e
theorem mulN_assoc {a b : Nat} (ha : a < 256) (hb : b < 256) (c : Nat) : mulN m (mulN m a b) c = mulN m a (mulN m b c) := by
  have hbc : mulN m b c < 256 := mulP_lt h0 h1 hb 8
  -- (a b) c = (a c) b ; a (b c) = (b c) a = (b a) c = (a b) c
  rw [mulN_comm h0 h1 ha hbc, show mulN m (mulN m b c) a = mulN m (mulN m b a) c from mulN_mulP h0 h1 hb c a 8, mulN_comm h0 h1 hb ha]
end

section
variable {m : Nat} (h0 : 256 ≤ m) (h1 : m < 512)
include h0 h1
theorem tm_nat (a b : UInt8) : (tm m a b).toNat = mulN m a.toNat b.toNat := by
  unfold tm; exact u8_ofNat_toNat (mulN_lt h0 h1 (u8_lt a))
theorem tm_comm (a b : UInt8) : tm m a b = tm m b a := by
  unfold tm; rw [mulN_comm h0 h1 (u8_lt a) (u8_lt b)]
theorem tm_xorL (a b c : UInt8) : tm m (a ^^^ b) c = tm m a c ^^^ tm m b c := by
  rw [tm_comm h0 h1, tm_xor, tm_comm h0 h1 c, tm_comm h0 h1 c]
theorem tm_assoc (a b c : UInt8) : tm m (tm m a b) c = tm m a (tm m b c) := by
  rw [← UInt8.toNat_inj, tm_nat h0 h1, tm_nat h0 h1, tm_nat h0 h1, tm_nat h0 h1]
  exact mulN_assoc h0 h1 (u8_lt a) (u8_lt b) c.toNat
theorem tm_one (a : UInt8) : tm m 1 a = a := by
  rw [← UInt8.toNat_inj, tm_nat h0 h1]; exact mulN_one (u8_lt a)
theorem tm_oneR (a : UInt8) : tm m a 1 = a := by rw [tm_comm h0 h1, tm_one h0 h1]
end
end Go.Proofs.YtenkjbkcdcionaaGreat
/- Interpolation: both ways of reckoning it give the same. Plain Lean. -/
namespace Go.Proofs.YtenkjbkcdcionaaGreat
set_option linter.unusedSimpArgs false
set_option linter.unusedVariables false
set_option maxRecDepth 20000
set_option maxHeartbeats 1000000
open Go.Abs

def stp (c0 c1 : Nat → UInt8) (n : Nat) : Nat → UInt8 := fun j => if j < n then (if j = 0 then c0 0 else c1 (j - 1) ^^^ c0 j) else if j = n ∧ 0 < n then c1 (n - 1) else 0
def lagL (i k : Nat) : Nat := if i < k then k else k + 1
def own0 : Nat → UInt8 := fun n => if n = 0 then 1 else 0
section
variable (m : Nat) (f v : Nat → UInt8) (i : Nat)
def own : Nat → Nat → UInt8
  | 0 => own0
  | k + 1 => if k = i then own k else stp (fun n => tm m (own k n) (f k)) (own k) (lagL i k)
def part : Nat → Nat → UInt8
  | 0 => own0
  | k + 1 => if k = i then part k else stp (fun n => tm m (tm m (part k n) (f k)) (inv m (f i ^^^ f k))) (fun n => tm m (part k n) (inv m (f i ^^^ f k))) (lagL i k)
end
section
variable {m : Nat} {f v : Nat → UInt8} {i k : Nat}
end
end Go.Proofs.YtenkjbkcdcionaaGreat
/- Cycles of places: their lengths sum to 16. Plain. -/
namespace Go.Proofs.YtenkjbkcdcionaaGreat
set_option linter.unusedSimpArgs false
set_option linter.unusedVariables false
set_option maxRecDepth 20000
set_option maxHeartbeats 1000000
open Go.Abs

def cyI (p : Nat → UInt8) (i : Nat) : Nat → Nat
  | 0 => i
  | k + 1 => (p (cyI p i k)).toNat
def cyD (p : Nat → UInt8) (d : Nat → Bool) (i : Nat) : Nat → (Nat → Bool)
  | 0 => d
  | k + 1 => upd (cyD p d i k) (cyI p i k) true
def cyN (p : Nat → UInt8) (d : Nat → Bool) (i : Nat) : Nat := skip (fun k => !(cyD p d i k (cyI p i k))) 17 0
def cyL (p : Nat → UInt8) (i k : Nat) : List Int := (List.range k).map fun j => ((cyI p i j : Nat) : Int)
section
variable {p : Nat → UInt8} (hp : ∀ i, i < 16 → (p i).toNat < 16)
include hp
end
def cyR (p : Nat → UInt8) : Nat → (Nat → Bool) × List (List Int)
  | 0 => (fun _ => false, [])
  | s + 1 => (cyD p (cyR p s).1 s (cyN p (cyR p s).1 s), if cyN p (cyR p s).1 s = 0 then (cyR p s).2 else (cyR p s).2 ++ [cyL p s (cyN p (cyR p s).1 s)])
def cyC (p : Nat → UInt8) (s : Nat) : Nat := (cyR p s).2.length
def cyRow (p : Nat → UInt8) (j : Nat) : List Int := (cyR p 16).2.getD j []
section
variable {p : Nat → UInt8} (hp : ∀ i, i < 16 → (p i).toNat < 16)
include hp
end
end Go.Proofs.YtenkjbkcdcionaaGreat
