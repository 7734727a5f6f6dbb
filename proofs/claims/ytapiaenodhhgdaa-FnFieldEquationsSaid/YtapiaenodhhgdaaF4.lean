/- Products in fields: laws of rings; permutations of finite sets. Plain Lean. -/
import Derived.Test.YtapiaenodhhgdaaW7
namespace Go.Proofs.Ytapiaenodhhgdaa
set_option linter.unusedSimpArgs false
set_option linter.unusedVariables false
set_option maxRecDepth 20000
set_option maxHeartbeats 1000000
open Go.Abs

theorem inj_surj : ∀ (n : Nat) (g : Nat → Nat), (∀ i, i < n → g i < n) → (∀ i j, i < n → j < n → g i = g j → i = j) → ∀ y, y < n → ∃ i, i < n ∧ g i = y
  | 0, _, _, _, y, hy => absurd hy (Nat.not_lt_zero y)
  | n + 1, g, hr, hi, y, hy => by
    by_cases hv : g n = n
    · by_cases hyn : y = n
      · exact ⟨n, by omega, by omega⟩
      · obtain ⟨i, h1, h2⟩ := inj_surj n g (fun i h => by
            have := hr i (by omega)
            rcases Nat.lt_or_ge (g i) n with h' | h'
            · exact h'
            · have := hi i n (by omega) (by omega) (by omega); omega) (fun i j h h' e => hi i j (by omega) (by omega) e) y (by omega)
        exact ⟨i, by omega, h2⟩
    · have hvn : g n < n := by have := hr n (by omega); omega
      have key := inj_surj n (fun i => if g i = n then g n else g i) (fun i h => by
          show (if g i = n then g n else g i) < n
          split
          · exact hvn
          · have := hr i (by omega); omega) (fun i j h h' e => by
          change (if g i = n then g n else g i) = (if g j = n then g n else g j) at e
          split at e <;> split at e
          · exact hi i j (by omega) (by omega) (by omega)
          · have := hi n j (by omega) (by omega) e; omega
          · have := hi i n (by omega) (by omega) e; omega
          · exact hi i j (by omega) (by omega) e)
      by_cases hy1 : y = g n
      · exact ⟨n, by omega, hy1.symm⟩
      · by_cases hyn : y = n
        · obtain ⟨i, h1, h2⟩ := key (g n) hvn
          change (if g i = n then g n else g i) = g n at h2
          split at h2
          · exact ⟨i, by omega, by omega⟩
          · have := hi i n (by omega) (by omega) h2; omega
        · obtain ⟨i, h1, h2⟩ := key y (by omega)
          change (if g i = n then g n else g i) = y at h2
          split at h2
          · exact absurd h2.symm hy1
          · exact ⟨i, by omega, h2⟩
theorem surj_inj (n : Nat) (g : Nat → Nat) (hr : ∀ i, i < n → g i < n) (hs : ∀ y, y < n → ∃ i, i < n ∧ g i = y) (i j : Nat) (h1 : i < n) (h2 : j < n) (e : g i = g j) : i = j := by
  have hc : ∀ y, ∃ i, y < n → i < n ∧ g i = y := fun y => by
    by_cases h : y < n
    · obtain ⟨i, hi⟩ := hs y h; exact ⟨i, fun _ => hi⟩
    · exact ⟨0, fun h' => absurd h' h⟩
  obtain ⟨k, hk⟩ := Classical.axiomOfChoice hc
  have hk' : ∀ y, y < n → k y < n ∧ g (k y) = y := hk
  have sj := inj_surj n k (fun i h => (hk' i h).1) (fun i j h h' e => by rw [← (hk' i h).2, ← (hk' j h').2, e])
  obtain ⟨y, hy, rfl⟩ := sj i h1
  obtain ⟨z, hz, rfl⟩ := sj j h2
  rw [(hk' y hy).2, (hk' z hz).2] at e; rw [e]
theorem mulP_xor (m a b c : Nat) : ∀ k, mulP m a (b ^^^ c) k = mulP m a b k ^^^ mulP m a c k
  | 0 => by simp [mulP]
  | k + 1 => by
    simp only [mulP, Nat.testBit_xor, mulP_xor m a b c k]
    cases b.testBit k <;> cases c.testBit k
    · rfl
    · simp only [Bool.false_xor, Bool.false_eq_true, if_true, if_false]; rw [Nat.xor_assoc]
    · simp only [Bool.xor_false, Bool.false_eq_true, if_true, if_false]; rw [Nat.xor_assoc, Nat.xor_assoc, Nat.xor_comm (mulP m a c k)]
    · simp only [Bool.xor_self, Bool.false_eq_true, if_true, if_false]
      rw [Nat.xor_assoc, Nat.xor_comm (dblN m a k), Nat.xor_assoc, Nat.xor_self, Nat.xor_zero]
theorem ofNat_xor (x y : Nat) : UInt8.ofNat (x ^^^ y) = UInt8.ofNat x ^^^ UInt8.ofNat y := by
  rw [← UInt8.toNat_inj, UInt8.toNat_xor]
  simp only [UInt8.toNat_ofNat']
  exact Nat.xor_mod_two_pow (n := 8)
theorem tm_xor (m : Nat) (a b c : UInt8) : tm m a (b ^^^ c) = tm m a b ^^^ tm m a c := by
  unfold tm mulN; rw [UInt8.toNat_xor, mulP_xor, ofNat_xor]
theorem pow_or {k l : Nat} (h : l < 2 ^ k) : 2 ^ k ||| l = 2 ^ k + l := by
  have := Nat.two_pow_add_eq_or_of_lt h 1; simpa using this.symm
theorem pow_xor {k l : Nat} (h : l < 2 ^ k) : 2 ^ k ^^^ l = 2 ^ k + l := by
  rw [← pow_or h]
  apply Nat.eq_of_testBit_eq
  intro i
  rw [Nat.testBit_xor, Nat.testBit_or, Nat.testBit_two_pow]
  by_cases hi : k = i
  · subst hi; rw [Nat.testBit_lt_two_pow h]; simp
  · simp [hi]
theorem tm_zeroR (m : Nat) (a : UInt8) : tm m a 0 = 0 := by
  have := tm_xor m a 0 0
  simpa using this

theorem xor_swap (a b c d : Nat) : (a ^^^ b) ^^^ (c ^^^ d) = (a ^^^ c) ^^^ (b ^^^ d) := by
  rw [Nat.xor_assoc, Nat.xor_assoc, ← Nat.xor_assoc b c d, ← Nat.xor_assoc c b d, Nat.xor_comm b c]
theorem ge_bit {x : Nat} (h : x < 256) : (256 ≤ 2 * x) ↔ x.testBit 7 = true := by
  constructor
  · intro h2; exact Nat.testBit_of_two_pow_le_and_two_pow_add_one_gt (i := 7) (by omega) (by omega)
  · intro h2
    have := Nat.ge_two_pow_of_testBit h2; omega
theorem dbl_bit (m : Nat) {x : Nat} (h : x < 256) : dbl m x = if x.testBit 7 then (2 * x) ^^^ m else 2 * x := by
  unfold dbl; simp only [ge_bit h]
theorem dbl_xor (m : Nat) {x y : Nat} (hx : x < 256) (hy : y < 256) : dbl m (x ^^^ y) = dbl m x ^^^ dbl m y := by
  rw [dbl_bit m hx, dbl_bit m hy, dbl_bit m (xor_lt (n := 8) hx hy), Nat.testBit_xor, two_xor]
  cases x.testBit 7 <;> cases y.testBit 7
  · rfl
  · simp only [Bool.false_xor, if_true, Bool.false_eq_true, if_false]; rw [Nat.xor_assoc]
  · simp only [Bool.xor_false, if_true, Bool.false_eq_true, if_false]; rw [Nat.xor_assoc, Nat.xor_assoc, Nat.xor_comm (2 * y)]
  · simp only [Bool.xor_self, if_true, Bool.false_eq_true, if_false]
    rw [xor_swap, Nat.xor_self, Nat.xor_zero]
section
variable {m : Nat} (h0 : 256 ≤ m) (h1 : m < 512)
include h0 h1
omit h0 h1 in
theorem dblN_dbl (a : Nat) : ∀ k, dblN m (dbl m a) k = dbl m (dblN m a k)
  | 0 => rfl
  | k + 1 => by show dbl m _ = dbl m _; rw [dblN_dbl a k]; rfl
theorem dblN_xor {x y : Nat} (hx : x < 256) (hy : y < 256) : ∀ k, dblN m (x ^^^ y) k = dblN m x k ^^^ dblN m y k
  | 0 => rfl
  | k + 1 => by show dbl m _ = dbl m _ ^^^ dbl m _; rw [dblN_xor hx hy k, dbl_xor m (dblN_lt h0 h1 hx k) (dblN_lt h0 h1 hy k)]
theorem mulP_dbl {a : Nat} (ha : a < 256) (b : Nat) : ∀ k, mulP m (dbl m a) b k = dbl m (mulP m a b k)
  | 0 => by simp [mulP, dbl]
  | k + 1 => by
    simp only [mulP, mulP_dbl ha b k, dblN_dbl a k]
    split
    · rw [dbl_xor m (mulP_lt h0 h1 ha k) (dblN_lt h0 h1 ha k)]
    · rfl
theorem mulP_xorL {x y : Nat} (hx : x < 256) (hy : y < 256) (b : Nat) : ∀ k, mulP m (x ^^^ y) b k = mulP m x b k ^^^ mulP m y b k
  | 0 => by simp [mulP]
  | k + 1 => by
    simp only [mulP, mulP_xorL hx hy b k, dblN_xor h0 h1 hx hy k]
    split
    · rw [xor_swap]
    · rfl
theorem mulN_dblN {a : Nat} (ha : a < 256) (b : Nat) : ∀ k, mulN m (dblN m a k) b = dblN m (mulN m a b) k
  | 0 => rfl
  | k + 1 => by
    show mulP m (dbl m (dblN m a k)) b 8 = dbl m (dblN m (mulN m a b) k)
    rw [mulP_dbl h0 h1 (dblN_lt h0 h1 ha k)]; exact congrArg _ (mulN_dblN ha b k)
/-- Products one behind the other may change places. -/
theorem mulN_mulP {a : Nat} (ha : a < 256) (b c : Nat) : ∀ k, mulN m (mulP m a b k) c = mulP m (mulN m a c) b k
  | 0 => by
    show mulP m 0 c 8 = 0
    have := mulP_xorL h0 h1 (x := 0) (y := 0) (by omega) (by omega) c 8
    simpa using this
  | k + 1 => by
    simp only [mulP]
    split
    · rw [show mulN m (mulP m a b k ^^^ dblN m a k) c = mulN m (mulP m a b k) c ^^^ mulN m (dblN m a k) c from mulP_xorL h0 h1 (mulP_lt h0 h1 ha k) (dblN_lt h0 h1 ha k) c 8, mulN_mulP ha b c k, mulN_dblN h0 h1 ha c k]
    · exact mulN_mulP ha b c k
omit h0 h1 in
theorem dblN_one : ∀ k, k < 8 → dblN m 1 k = 2 ^ k
  | 0, _ => rfl
  | k + 1, h => by
    show dbl m (dblN m 1 k) = _
    have h2 : 2 ^ k < 128 := Nat.pow_lt_pow_right (n := 7) (by omega) (by omega)
    rw [dblN_one k (by omega)]; unfold dbl; rw [if_neg (by omega), Nat.pow_succ]; omega
omit h0 h1 in
theorem mulP_one (b : Nat) : ∀ k, k ≤ 8 → mulP m 1 b k = b % 2 ^ k
  | 0, _ => by simp [mulP, Nat.mod_one]
  | k + 1, h => by
    simp only [mulP, mulP_one b k (by omega), dblN_one k (by omega)]
    have hlt : b % 2 ^ k < 2 ^ k := Nat.mod_lt _ (Nat.two_pow_pos k)
    have e := Nat.mod_pow_succ (x := b) (b := 2) (k := k)
    have ht : b.testBit k = decide (b / 2 ^ k % 2 = 1) := Nat.testBit_eq_decide_div_mod_eq
    rw [e, ht]
    rcases Nat.mod_two_eq_zero_or_one (b / 2 ^ k) with h2 | h2 <;> rw [h2]
    · simp
    · rw [if_pos (by simp), Nat.xor_comm, pow_xor hlt]; omega
omit h0 h1 in
theorem mulN_one {b : Nat} (hb : b < 256) : mulN m 1 b = b := by
  unfold mulN; rw [mulP_one b 8 (by omega)]; exact Nat.mod_eq_of_lt hb
theorem mulN_comm {a b : Nat} (ha : a < 256) (hb : b < 256) : mulN m a b = mulN m b a := by
  have e := mulN_mulP h0 h1 (a := 1) (by omega) a b 8
  rw [show mulP m 1 a 8 = a from mulN_one ha, mulN_one hb] at e
  exact e
theorem mulN_assoc {a b : Nat} (ha : a < 256) (hb : b < 256) (c : Nat) : mulN m (mulN m a b) c = mulN m a (mulN m b c) := by
  have hbc : mulN m b c < 256 := mulP_lt h0 h1 hb 8
  -- (a b) c = (a c) b ; a (b c) = (b c) a = (b a) c = (a b) c
  rw [mulN_comm h0 h1 ha hbc, show mulN m (mulN m b c) a = mulN m (mulN m b a) c from mulN_mulP h0 h1 hb c a 8, mulN_comm h0 h1 hb ha]
end

section
variable {m : Nat} (h0 : 256 ≤ m) (h1 : m < 512)
include h0 h1
theorem tm_nat (a b : UInt8) : (tm m a b).toNat = mulN m a.toNat b.toNat := by
  unfold tm; exact u8_ofNat_toNat (mulN_lt h0 h1 (u8_lt a))
theorem tm_comm (a b : UInt8) : tm m a b = tm m b a := by
  unfold tm; rw [mulN_comm h0 h1 (u8_lt a) (u8_lt b)]
theorem tm_xorL (a b c : UInt8) : tm m (a ^^^ b) c = tm m a c ^^^ tm m b c := by
  rw [tm_comm h0 h1, tm_xor, tm_comm h0 h1 c, tm_comm h0 h1 c]
theorem tm_assoc (a b c : UInt8) : tm m (tm m a b) c = tm m a (tm m b c) := by
  rw [← UInt8.toNat_inj, tm_nat h0 h1, tm_nat h0 h1, tm_nat h0 h1, tm_nat h0 h1]
  exact mulN_assoc h0 h1 (u8_lt a) (u8_lt b) c.toNat
theorem tm_one (a : UInt8) : tm m 1 a = a := by
  rw [← UInt8.toNat_inj, tm_nat h0 h1]; exact mulN_one (u8_lt a)
theorem tm_oneR (a : UInt8) : tm m a 1 = a := by rw [tm_comm h0 h1, tm_one h0 h1]
theorem tm_swap (a b c d : UInt8) : tm m (tm m a b) (tm m c d) = tm m (tm m a c) (tm m b d) := by
  rw [tm_assoc h0 h1, tm_assoc h0 h1, ← tm_assoc h0 h1 b c d, tm_comm h0 h1 b c, tm_assoc h0 h1 c b d]
theorem sqP_mul (a b : UInt8) : ∀ k, sqP m (tm m a b) k = tm m (sqP m a k) (sqP m b k)
  | 0 => rfl
  | k + 1 => by simp only [sqP]; rw [sqP_mul a b k, tm_swap h0 h1]
theorem poP_mul (a b : UInt8) (e : Nat) : ∀ k, poP m (tm m a b) e k = tm m (poP m a e k) (poP m b e k)
  | 0 => (tm_one h0 h1 1).symm
  | k + 1 => by
    simp only [poP]
    split
    · rw [poP_mul a b e k, sqP_mul h0 h1 a b k, tm_swap h0 h1]
    · exact poP_mul a b e k
theorem inv_mul (a b : UInt8) : inv m (tm m a b) = tm m (inv m a) (inv m b) := poP_mul h0 h1 a b 254 _
theorem sqP_one : ∀ k, sqP m 1 k = 1
  | 0 => rfl
  | k + 1 => by simp only [sqP]; rw [sqP_one k, tm_one h0 h1]
theorem poP_one (e : Nat) : ∀ k, poP m 1 e k = 1
  | 0 => rfl
  | k + 1 => by
    simp only [poP]
    split
    · rw [poP_one e k, sqP_one h0 h1 k, tm_one h0 h1]
    · exact poP_one e k
theorem inv_one : inv m 1 = 1 := poP_one h0 h1 254 _
end
end Go.Proofs.Ytapiaenodhhgdaa
