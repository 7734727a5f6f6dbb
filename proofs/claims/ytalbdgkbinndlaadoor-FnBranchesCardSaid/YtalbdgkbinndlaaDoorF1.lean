/- Products of polynomials over two elements, and which are irreducible. Plain Lean. -/
namespace Go.Abs
set_option linter.unusedSimpArgs false
set_option linter.unusedVariables false
set_option maxRecDepth 20000
set_option maxHeartbeats 1000000

/-- Doubling modulo m. -/
def dbl (m x : Nat) : Nat := if 256 ≤ 2 * x then (2 * x) ^^^ m else 2 * x
def dblN (m a : Nat) : Nat → Nat
  | 0 => a
  | k + 1 => dbl m (dblN m a k)
/-- The product of a and the lower k bits of b. -/
def mulP (m a b : Nat) : Nat → Nat
  | 0 => 0
  | k + 1 => if b.testBit k then mulP m a b k ^^^ dblN m a k else mulP m a b k
def mulN (m a b : Nat) : Nat := mulP m a b 8

def clP (a b : Nat) : Nat → Nat
  | 0 => 0
  | k + 1 => if b.testBit k then clP a b k ^^^ (a <<< k) else clP a b k
/-- What is left after k steps from bit 15 on. -/
def restP (m d a : Nat) : Nat → Nat
  | 0 => a
  | k + 1 => if (restP m d a k).testBit (15 - k) then restP m d a k ^^^ (m <<< (15 - k - d)) else restP m d a k
def restN (m d a : Nat) : Nat := restP m d a (16 - d)

theorem xor_lt {x y n : Nat} (hx : x < 2 ^ n) (hy : y < 2 ^ n) : x ^^^ y < 2 ^ n := Nat.xor_lt_two_pow hx hy

theorem restP_xor (m d : Nat) (x y : Nat) : ∀ k, restP m d (x ^^^ y) k = restP m d x k ^^^ restP m d y k
  | 0 => rfl
  | k + 1 => by
    simp only [restP, restP_xor m d x y k, Nat.testBit_xor]
    generalize restP m d x k = u
    generalize restP m d y k = v
    generalize m <<< (15 - k - d) = c
    cases u.testBit (15 - k) <;> cases v.testBit (15 - k) <;> simp only [Bool.false_bne, Bool.bne_false, Bool.true_bne, bne_self_eq_false, Bool.not_true, Bool.false_eq_true, if_true, if_false]
    · rw [Nat.xor_assoc]
    · rw [Nat.xor_assoc, Nat.xor_comm v c, ← Nat.xor_assoc]
    · rw [Nat.xor_assoc, Nat.xor_comm c, Nat.xor_assoc, Nat.xor_self, Nat.xor_zero]

/-- Top bit cleared. -/
theorem xor_top {y c i : Nat} (hy : y < 2 ^ (i + 1)) (hc : c < 2 ^ (i + 1)) (hyi : y.testBit i = true) (hci : c.testBit i = true) : y ^^^ c < 2 ^ i := by
  apply Nat.lt_pow_two_of_testBit
  intro j hj
  rw [Nat.testBit_xor]
  by_cases hji : j = i
  · subst hji; rw [hyi, hci]; rfl
  · rw [Nat.testBit_lt_two_pow (Nat.lt_of_lt_of_le hy (Nat.pow_le_pow_right (by omega) (by omega))), Nat.testBit_lt_two_pow (Nat.lt_of_lt_of_le hc (Nat.pow_le_pow_right (by omega) (by omega)))]; rfl

theorem lt_top {y i : Nat} (hy : y < 2 ^ (i + 1)) (hyi : y.testBit i = false) : y < 2 ^ i := by
  rcases Nat.lt_or_ge y (2 ^ i) with h | h
  · exact h
  · have := Nat.testBit_of_two_pow_le_and_two_pow_add_one_gt h hy
    rw [this] at hyi; cases hyi

theorem m_top {m : Nat} (h0 : 256 ≤ m) (h1 : m < 512) : m.testBit 8 = true := Nat.testBit_of_two_pow_le_and_two_pow_add_one_gt (i := 8) h0 h1

theorem restP_lt {m : Nat} (h0 : 256 ≤ m) (h1 : m < 512) {a : Nat} (ha : a < 2 ^ 16) : ∀ k, k ≤ 8 → restP m 8 a k < 2 ^ (16 - k)
  | 0, _ => ha
  | k + 1, hk => by
    have ih := restP_lt h0 h1 ha k (by omega)
    simp only [restP]
    generalize restP m 8 a k = y at *
    have e : 16 - k = (15 - k) + 1 := by omega
    rw [e] at ih
    rw [show 16 - (k + 1) = 15 - k by omega]
    cases hb : y.testBit (15 - k) with
    | false => simp only [Bool.false_eq_true, if_false]; exact lt_top ih hb
    | true =>
      simp only [if_true]
      refine xor_top ih ?_ hb ?_
      · rw [Nat.shiftLeft_eq]
        have : 2 ^ (15 - k + 1) = 512 * 2 ^ (15 - k - 8) := by
          rw [show 15 - k + 1 = 9 + (15 - k - 8) by omega, Nat.pow_add]
        rw [this]
        exact Nat.mul_lt_mul_of_pos_right h1 (Nat.two_pow_pos _)
      · rw [Nat.testBit_shiftLeft]
        simp only [show 15 - k - (15 - k - 8) = 8 by omega, m_top h0 h1, Bool.and_true, decide_eq_true_eq]
        omega

theorem restN_lt {m : Nat} (h0 : 256 ≤ m) (h1 : m < 512) {a : Nat} (ha : a < 2 ^ 16) : restN m 8 a < 256 := restP_lt h0 h1 ha 8 (by omega)

theorem two_xor (x y : Nat) : 2 * (x ^^^ y) = (2 * x) ^^^ (2 * y) := by
  have := Nat.shiftLeft_xor_distrib (a := x) (b := y) (i := 1)
  simp only [Nat.shiftLeft_eq, Nat.pow_one] at this
  rw [Nat.mul_comm, this, Nat.mul_comm x, Nat.mul_comm y]

theorem restP_two {m : Nat} {x : Nat} (hx : x < 2 ^ 15) : ∀ k, k ≤ 7 → restP m 8 (2 * x) k = 2 * restP m 8 x (k + 1)
  | 0, _ => by
    have : x.testBit 15 = false := Nat.testBit_lt_two_pow hx
    simp [restP, this]
  | k + 1, hk => by
    have ih := restP_two (m := m) hx k (by omega)
    rw [restP, ih, show restP m 8 x (k + 1 + 1) = if (restP m 8 x (k + 1)).testBit (15 - (k + 1)) then restP m 8 x (k + 1) ^^^ (m <<< (15 - (k + 1) - 8)) else restP m 8 x (k + 1) from rfl]
    generalize restP m 8 x (k + 1) = y
    have hb : (2 * y).testBit (15 - k) = y.testBit (15 - (k + 1)) := by
      rw [show 15 - k = (15 - (k + 1)) + 1 by omega, Nat.testBit_succ]; congr 1; omega
    rw [hb]
    cases y.testBit (15 - (k + 1)) with
    | false => simp
    | true =>
      simp only [if_true]
      rw [two_xor]
      congr 1
      rw [Nat.shiftLeft_eq, Nat.shiftLeft_eq, show 15 - k - 8 = (15 - (k + 1) - 8) + 1 by omega, Nat.pow_succ]
      generalize 2 ^ (15 - (k + 1) - 8) = c
      rw [Nat.mul_comm 2 (m * c), Nat.mul_assoc]

theorem restN_two {m : Nat} (h0 : 256 ≤ m) (h1 : m < 512) {x : Nat} (hx : x < 2 ^ 15) : restN m 8 (2 * x) = dbl m (restN m 8 x) := by
  have hlt := restN_lt h0 h1 (a := x) (by omega)
  show restP m 8 (2 * x) (7 + 1) = dbl m (restP m 8 x 8)
  rw [restP, restP_two hx 7 (by omega)]
  have hlt' : restP m 8 x 8 < 256 := hlt
  generalize restP m 8 x 8 = y at *
  show (if (2 * y).testBit 8 = true then 2 * y ^^^ m <<< 0 else 2 * y) = dbl m y
  unfold dbl
  by_cases h : 256 ≤ 2 * y
  · rw [if_pos h, if_pos (Nat.testBit_of_two_pow_le_and_two_pow_add_one_gt (i := 8) h (by omega))]; simp
  · rw [if_neg h, if_neg]
    rw [Nat.testBit_lt_two_pow (by omega)]; simp

theorem restN_small {m a : Nat} (ha : a < 256) : restN m 8 a = a := by
  have : ∀ k, k ≤ 8 → restP m 8 a k = a := by
    intro k
    induction k with
    | zero => intro _; rfl
    | succ k ih =>
      intro hk
      rw [restP, ih (by omega), if_neg]
      rw [Nat.testBit_lt_two_pow]
      · simp
      · exact Nat.lt_of_lt_of_le ha (show 2 ^ 8 ≤ 2 ^ (15 - k) from Nat.pow_le_pow_right (by omega) (by omega))
  exact this 8 (by omega)

theorem restN_shift {m : Nat} (h0 : 256 ≤ m) (h1 : m < 512) {a : Nat} (ha : a < 256) : ∀ k, k ≤ 8 → restN m 8 (a <<< k) = dblN m a k
  | 0, _ => by simpa [dblN] using restN_small ha
  | k + 1, hk => by
    have : a <<< (k + 1) = 2 * (a <<< k) := by rw [Nat.shiftLeft_eq, Nat.shiftLeft_eq, Nat.pow_succ, ← Nat.mul_assoc, Nat.mul_comm]
    rw [this, restN_two h0 h1, restN_shift h0 h1 ha k (by omega)]
    · rfl
    · rw [Nat.shiftLeft_eq]
      have h2 : 2 ^ k ≤ 2 ^ 7 := Nat.pow_le_pow_right (by omega) (by omega)
      calc a * 2 ^ k < 256 * 2 ^ k := Nat.mul_lt_mul_of_pos_right ha (Nat.two_pow_pos _)
        _ ≤ 256 * 2 ^ 7 := Nat.mul_le_mul_left _ h2

theorem restN_zero (m d : Nat) : restN m d 0 = 0 := by
  have : ∀ k, restP m d 0 k = 0 := by
    intro k
    induction k with
    | zero => rfl
    | succ k ih => rw [restP, ih]; simp
  exact this _

/-- Multiplying first and reducing then is multiplying step by step. -/
theorem rest_cl {m : Nat} (h0 : 256 ≤ m) (h1 : m < 512) {a b : Nat} (ha : a < 256) : ∀ k, k ≤ 8 → restN m 8 (clP a b k) = mulP m a b k
  | 0, _ => restN_zero m 8
  | k + 1, hk => by
    have ih := rest_cl h0 h1 (b := b) ha k (by omega)
    rw [clP, mulP]
    cases b.testBit k with
    | false => simpa using ih
    | true =>
      simp only [if_true]
      rw [show restN m 8 (clP a b k ^^^ a <<< k) = restN m 8 (clP a b k) ^^^ restN m 8 (a <<< k) from restP_xor m 8 _ _ 8, ih, restN_shift h0 h1 ha k (by omega)]

theorem dbl_lt {m : Nat} (h0 : 256 ≤ m) (h1 : m < 512) {x : Nat} (hx : x < 256) : dbl m x < 256 := by
  unfold dbl
  split
  · rename_i h
    exact xor_top (i := 8) (by omega) (by omega) (Nat.testBit_of_two_pow_le_and_two_pow_add_one_gt h (by omega)) (m_top h0 h1)
  · omega
theorem dblN_lt {m : Nat} (h0 : 256 ≤ m) (h1 : m < 512) {a : Nat} (ha : a < 256) : ∀ k, dblN m a k < 256
  | 0 => ha
  | k + 1 => dbl_lt h0 h1 (dblN_lt h0 h1 ha k)
theorem mulP_lt {m : Nat} (h0 : 256 ≤ m) (h1 : m < 512) {a b : Nat} (ha : a < 256) : ∀ k, mulP m a b k < 256
  | 0 => by simp [mulP]
  | k + 1 => by
    have := mulP_lt h0 h1 (b := b) ha k
    rw [mulP]
    split
    · exact xor_lt (n := 8) this (dblN_lt h0 h1 ha k)
    · exact this
theorem clP_lt {a b : Nat} (ha : a < 256) : ∀ k, k ≤ 8 → clP a b k < 2 ^ 15
  | 0, _ => by simp [clP]
  | k + 1, hk => by
    have := clP_lt (b := b) ha k (by omega)
    rw [clP]
    split
    · refine xor_lt this ?_
      rw [Nat.shiftLeft_eq]
      have h2 : 2 ^ k ≤ 2 ^ 7 := Nat.pow_le_pow_right (by omega) (by omega)
      calc a * 2 ^ k < 256 * 2 ^ k := Nat.mul_lt_mul_of_pos_right ha (Nat.two_pow_pos _)
        _ ≤ 256 * 2 ^ 7 := Nat.mul_le_mul_left _ h2
    · exact this

/-- The binary length. -/
def blen (x : Nat) : Nat := if x = 0 then 0 else Nat.log2 x + 1
theorem blen_pos {n k : Nat} (h : k < blen n) : 0 < n >>> k := by
  unfold blen at h
  split at h
  · omega
  · rename_i hn
    rw [Nat.shiftRight_eq_div_pow]
    have : 2 ^ k ≤ n := Nat.le_trans (Nat.pow_le_pow_right (by omega) (show k ≤ n.log2 by omega)) (Nat.log2_self_le hn)
    exact Nat.div_pos this (Nat.two_pow_pos _)
theorem blen_done (n : Nat) : n >>> blen n = 0 := by
  unfold blen
  split
  · rename_i hn; rw [hn]; rfl
  · rename_i hn
    rw [Nat.shiftRight_eq_div_pow]
    exact Nat.div_eq_of_lt (Nat.lt_log2_self)
theorem blen_lt {n k : Nat} (h : n < 2 ^ k) : blen n ≤ k := by
  unfold blen
  split
  · omega
  · rename_i hn
    exact (Nat.log2_lt hn).2 h

/-- The other way to the remainder: as long as the length is not less. -/
def divP (b : Nat) : Nat → Nat → Nat
  | 0, a => a
  | f + 1, a => if blen a < blen b then a else divP b f (a ^^^ (b <<< (blen a - blen b)))
def divN (b a : Nat) : Nat := divP b 16 a

/-- Whether m is a field. -/
def fieldB (m : Nat) : Bool := decide (256 ≤ m) && decide (m < 512) && (List.range 30).all fun i => restN (i + 2) (blen (i + 2) - 1) m != 0

theorem div_rest0 : ∀ m, m < 256 → ∀ i, i < 30 → divN (i + 2) (m + 256) = restN (i + 2) (blen (i + 2) - 1) (m + 256) := by decide +kernel
theorem div_rest {m : Nat} (h0 : 256 ≤ m) (h1 : m < 512) {d : Nat} (h2 : 2 ≤ d) (h3 : d < 32) : divN d m = restN d (blen d - 1) m := by
  have := div_rest0 (m - 256) (by omega) (d - 2) (by omega)
  rwa [show m - 256 + 256 = m by omega, show d - 2 + 2 = d by omega] at this

theorem dblN_t {m a k : Nat} (h : 256 ≤ dblN m a k * 2) : dblN m a (k + 1) = (dblN m a k * 2) ^^^ m := by
  rw [dblN, dbl, Nat.mul_comm 2, if_pos h]
theorem dblN_f {m a k : Nat} (h : ¬ 256 ≤ dblN m a k * 2) : dblN m a (k + 1) = dblN m a k * 2 := by
  rw [dblN, dbl, Nat.mul_comm 2, if_neg h]
theorem mulP_t {m a b k : Nat} (h : b.testBit k = true) : mulP m a b (k + 1) = mulP m a b k ^^^ dblN m a k := by
  rw [mulP, if_pos h]
theorem mulP_f {m a b k : Nat} (h : b.testBit k = false) : mulP m a b (k + 1) = mulP m a b k := by
  rw [mulP, h]; rfl
theorem clP_t {a b k : Nat} (h : b.testBit k = true) : clP a b (k + 1) = clP a b k ^^^ (a <<< k) := by
  rw [clP, if_pos h]
theorem clP_f {a b k : Nat} (h : b.testBit k = false) : clP a b (k + 1) = clP a b k := by
  rw [clP, h]; rfl
theorem blen_top {b k : Nat} (h : blen b ≤ k) : b.testBit k = false := by
  refine Nat.testBit_lt_two_pow ?_
  unfold blen at h
  split at h
  · rename_i h0; rw [h0]; exact Nat.two_pow_pos _
  · exact (Nat.log2_lt (by assumption)).1 (by omega)
theorem mulP_done (m a b : Nat) : ∀ k, mulP m a b (blen b + k) = mulP m a b (blen b)
  | 0 => rfl
  | k + 1 => by rw [← Nat.add_assoc, mulP_f (blen_top (Nat.le_add_right _ _)), mulP_done m a b k]
theorem mulN_blen {m a b : Nat} (h : b < 256) : mulP m a b (blen b) = mulN m a b := by
  have := blen_lt (k := 8) h
  rw [mulN, show 8 = blen b + (8 - blen b) by omega, mulP_done]
theorem mulN_cl {m : Nat} (h0 : 256 ≤ m) (h1 : m < 512) {a b : Nat} (ha : a < 256) : restP m 8 (clP a b 8) 8 = mulN m a b := rest_cl h0 h1 ha 8 (by omega)
theorem mulN_lt {m : Nat} (h0 : 256 ≤ m) (h1 : m < 512) {a b : Nat} (ha : a < 256) : mulN m a b < 256 := mulP_lt h0 h1 ha 8
theorem restP_t {m d a k : Nat} (h : (restP m d a k).testBit (15 - k) = true) : restP m d a (k + 1) = restP m d a k ^^^ (m <<< (15 - k - d)) := by
  rw [restP, if_pos h]
theorem restP_f {m d a k : Nat} (h : (restP m d a k).testBit (15 - k) = false) : restP m d a (k + 1) = restP m d a k := by
  rw [restP, h]; rfl
theorem blen_half {x : Nat} (h : 0 < x) : blen x = blen (x / 2) + 1 := by
  unfold blen
  rw [if_neg (by omega)]
  by_cases h2 : x / 2 = 0
  · rw [if_pos h2, show x = 1 by omega]; rfl
  · rw [if_neg h2]
    have : Nat.log2 x = Nat.log2 (x / 2) + 1 := by rw [Nat.log2_def, if_pos (by omega)]
    rw [this]

theorem blen_zero : blen 0 = 0 := rfl
theorem lt_blen (a : Nat) : a < 2 ^ blen a := by
  unfold blen; split
  · rename_i h; rw [h]; decide
  · exact Nat.lt_log2_self
theorem blen_bit {a : Nat} (h : a ≠ 0) : a.testBit (blen a - 1) = true := by
  unfold blen; rw [if_neg h]
  exact Nat.testBit_of_two_pow_le_and_two_pow_add_one_gt (i := a.log2) (Nat.log2_self_le h) Nat.lt_log2_self
def divStep (b a : Nat) : Nat := a ^^^ (b <<< (blen a - blen b))
theorem blen_ne {a : Nat} (h : 0 < blen a) : a ≠ 0 := by intro e; rw [e] at h; exact absurd h (by decide)
theorem blen_step {a b : Nat} (hb : b ≠ 0) (h : blen b ≤ blen a) : blen (divStep b a) < blen a := by
  have h1 : 0 < blen b := by unfold blen; rw [if_neg hb]; omega
  have ha : a ≠ 0 := blen_ne (by omega)
  have : divStep b a < 2 ^ (blen a - 1) := by
    refine xor_top (i := blen a - 1) ?_ ?_ (blen_bit ha) ?_
    · rw [show blen a - 1 + 1 = blen a by omega]; exact lt_blen a
    · rw [show blen a - 1 + 1 = blen b + (blen a - blen b) by omega, Nat.pow_add, Nat.shiftLeft_eq]
      exact Nat.mul_lt_mul_of_pos_right (lt_blen b) (Nat.two_pow_pos _)
    · rw [Nat.testBit_shiftLeft]
      simp only [show blen a - 1 - (blen a - blen b) = blen b - 1 by omega, blen_bit hb, Bool.and_true, decide_eq_true_eq]
      omega
  have := blen_lt this
  omega
def divS (b a : Nat) : Nat → Nat
  | 0 => a
  | k + 1 => divStep b (divS b a k)
def divC (b : Nat) : Nat → Nat → Nat
  | 0, _ => 0
  | f + 1, a => if blen a < blen b then 0 else divC b f (divStep b a) + 1
theorem divS_succ (b a : Nat) : ∀ k, divS b a (k + 1) = divS b (divStep b a) k
  | 0 => rfl
  | k + 1 => by rw [divS, divS_succ b a k]; rfl
theorem divC_go {b : Nat} : ∀ f a k, k < divC b f a → blen b ≤ blen (divS b a k)
  | 0, _, _, h => by simp [divC] at h
  | f + 1, a, k, h => by
    rw [divC] at h
    split at h
    · omega
    · cases k with
      | zero => rw [divS]; omega
      | succ k => rw [divS_succ]; exact divC_go f _ k (by omega)
theorem divC_end {b : Nat} (hb : b ≠ 0) : ∀ f a, blen a ≤ f → blen (divS b a (divC b f a)) < blen b ∧ divS b a (divC b f a) = divP b f a
  | 0, a, h => by
    have h1 : 0 < blen b := by unfold blen; rw [if_neg hb]; omega
    exact ⟨by simp only [divC, divS]; omega, rfl⟩
  | f + 1, a, h => by
    rw [divC, divP]
    split
    · rename_i hc
      exact ⟨hc, rfl⟩
    · rename_i hc
      have := blen_step hb (a := a) (by omega)
      have ih := divC_end hb f (divStep b a) (by omega)
      rw [divS_succ]
      exact ih
theorem divS_lt {b a : Nat} (hb : b ≠ 0) {f : Nat} : ∀ k, k ≤ divC b f a → blen (divS b a k) ≤ blen a
  | 0, _ => Nat.le_refl _
  | k + 1, h => by
    have := divS_lt (a := a) (f := f) hb k (by omega)
    have := blen_step hb (divC_go f a k (by omega))
    rw [divS]; omega
theorem lt_of_blen {a k : Nat} (h : blen a ≤ k) : a < 2 ^ k := Nat.lt_of_lt_of_le (lt_blen a) (Nat.pow_le_pow_right (by omega) h)
theorem xorS_lt {x m s : Nat} (hx : x < 2 ^ 20) (hm : m < 2 ^ 5) (hs : s ≤ 14) : x ^^^ (m <<< s) < 2 ^ 20 := by
  refine xor_lt hx ?_
  rw [Nat.shiftLeft_eq]
  have h2 : 2 ^ s ≤ 2 ^ 14 := Nat.pow_le_pow_right (by omega) hs
  calc m * 2 ^ s ≤ m * 2 ^ 14 := Nat.mul_le_mul_left _ h2
    _ < 2 ^ 20 := by omega
theorem restD_lt {m d a : Nat} (hm : m < 2 ^ 5) (hd : 1 ≤ d) (ha : a < 2 ^ 20) : ∀ k, restP m d a k < 2 ^ 20
  | 0 => ha
  | k + 1 => by
    have ih := restD_lt hm hd ha k
    rw [restP]; split
    · exact xorS_lt ih hm (by omega)
    · exact ih
theorem shl5_lt {m s : Nat} (hm : m < 2 ^ 5) (hs : s ≤ 14) : m <<< s < 1048576 := by
  rw [Nat.shiftLeft_eq]
  have h2 : 2 ^ s ≤ 2 ^ 14 := Nat.pow_le_pow_right (by omega) hs
  calc m * 2 ^ s ≤ m * 2 ^ 14 := Nat.mul_le_mul_left _ h2
    _ < 1048576 := by omega

def fieldAll (m n : Nat) : Bool := (List.range n).all fun i => restN (i + 2) (blen (i + 2) - 1) m != 0
theorem fieldAll_0 (m : Nat) : fieldAll m 0 = true := rfl
theorem fieldAll_s {m n : Nat} (h : fieldAll m n = true) (h2 : restN (n + 2) (blen (n + 2) - 1) m ≠ 0) : fieldAll m (n + 1) = true := by
  unfold fieldAll at *; rw [List.range_succ, List.all_append, h]; simpa using h2
theorem fieldAll_f {m n : Nat} (hn : n < 30) (h2 : restN (n + 2) (blen (n + 2) - 1) m = 0) : fieldAll m 30 = false := by
  unfold fieldAll; rw [Bool.eq_false_iff]; intro h; rw [List.all_eq_true] at h
  have := h n (List.mem_range.2 hn); simp [h2] at this
theorem blen_eq {x k : Nat} (h0 : 2 ^ k ≤ x) (h1 : x < 2 ^ (k + 1)) : blen x = k + 1 := by
  have h := blen_lt h1
  have : ¬ blen x ≤ k := fun h => by have := lt_of_blen h; omega
  omega

end Go.Abs
