/- FnBranches is proved: whatever the input, the law returns true and its argument reads as it did. The listed package-level variables are tied to the program's text. -/
import Derived.Test.YtalbdgkbinndlaaDoorCards
import Derived.Test.YtalbdgkbinndlaaDoorTie
import Derived.LaidMore
import Derived.Lay
import Derived.SevenTiedAt
import Derived.Stop.Joined
import Derived.Test.YtalbdgkbinndlaaDoorQBRH
import Derived.Test.YtalbdgkbinndlaaDoorQBR1
import Derived.Test.YtalbdgkbinndlaaDoorQBR2
import Derived.Test.YtalbdgkbinndlaaDoorQBR4
/- A matrix of inverses of sums leads no column to as many zeros as the column has elements other than 0. Plain. -/
namespace Go.Proofs.YtalbdgkbinndlaaDoor
set_option linter.unusedSimpArgs false
set_option linter.unusedVariables false
set_option maxRecDepth 20000
set_option maxHeartbeats 1000000
open Go.Abs

theorem dt_terms {m : Nat} {r y s z : Nat → UInt8} : ∀ {n : Nat}, (∀ t, t < n → tm m (r t) (y t) = tm m (s t) (z t)) → dt m r y n = dt m s z n
  | 0, _ => rfl
  | n + 1, h => by
    show dt m r y n ^^^ tm m (r n) (y n) = dt m s z n ^^^ tm m (s n) (z n)
    rw [dt_terms fun t ht => h t (by omega), h n (by omega)]
theorem xor_can (a b c : UInt8) : (a ^^^ b) ^^^ (b ^^^ c) = a ^^^ c := by
  rw [UInt8.xor_assoc, ← UInt8.xor_assoc b b c, UInt8.xor_self, UInt8.zero_xor]
theorem xor_nz {a b : UInt8} (h : a ≠ b) : a ^^^ b ≠ 0 := fun e => h (u8_xor_eq e)
section
variable {m : Nat} (h0 : 256 ≤ m) (h1 : m < 512)
include h0 h1
theorem cau_term (hf : fieldB m = true) {A B z u : UInt8} (hA : A ≠ 0) (hB : B ≠ 0) :
    tm m (tm m (A ^^^ z) (inv m A) ^^^ tm m (B ^^^ z) (inv m B)) u = tm m (tm m (A ^^^ B) (inv m A)) (tm m (tm m u z) (inv m B)) := by
  have iA : Std.Associative (tm m) := ⟨tm_assoc h0 h1⟩
  have iC : Std.Commutative (tm m) := ⟨tm_comm h0 h1⟩
  have e1 : tm m (A ^^^ z) (inv m A) ^^^ tm m (B ^^^ z) (inv m B) = tm m z (inv m A) ^^^ tm m z (inv m B) := by
    rw [tm_xorL h0 h1, tm_xorL h0 h1, tm_inv h0 h1 hf hA, tm_inv h0 h1 hf hB, xor4, UInt8.xor_self, UInt8.zero_xor]
  have e2 : tm m (tm m A (inv m A)) (tm m (tm m u z) (inv m B)) = tm m (tm m z (inv m B)) u := by
    rw [tm_inv h0 h1 hf hA, tm_one h0 h1]; ac_rfl
  have e3 : tm m (tm m B (inv m A)) (tm m (tm m u z) (inv m B)) = tm m (tm m z (inv m A)) u := by
    have : tm m (tm m B (inv m A)) (tm m (tm m u z) (inv m B)) = tm m (tm m B (inv m B)) (tm m (tm m z (inv m A)) u) := by ac_rfl
    rw [this, tm_inv h0 h1 hf hB, tm_one h0 h1]
  rw [e1, tm_xorL h0 h1, tm_xorL h0 h1 A B, tm_xorL h0 h1, e2, e3, UInt8.xor_comm]
/-- As many rows as columns: the column 0 alone leads to zeros. -/
theorem cau_z (hf : fieldB m = true) : ∀ n (x y u : Nat → UInt8), (∀ i j, i < n → j < n → x i ≠ y j) → (∀ i j, i < n → j < n → x i = x j → i = j) → (∀ i j, i < n → j < n → y i = y j → i = j) →
    (∀ p, p < n → dt m (fun q => inv m (x p ^^^ y q)) u n = 0) → ∀ j, j < n → u j = 0
  | 0, _, _, _, _, _, _, _, j, hj => absurd hj (Nat.not_lt_zero j)
  | n + 1, x, y, u, hxy, hx, hy, he, j, hj => by
    have row : ∀ p, p < n + 1 → dt m (fun q => tm m (x p ^^^ y n) (inv m (x p ^^^ y q))) u n = u n := fun p hp => by
      have h := he p hp
      have h2 : dt m (fun q => inv m (x p ^^^ y q)) u n ^^^ tm m (inv m (x p ^^^ y n)) (u n) = 0 := h
      rw [dt_sclL h0 h1, u8_xor_eq h2, ← tm_assoc h0 h1, tm_inv h0 h1 hf (xor_nz (hxy p n hp (by omega))), tm_one h0 h1]
    have hz : ∀ q, q < n → tm m (tm m (u q) (y q ^^^ y n)) (inv m (x n ^^^ y q)) = 0 := by
      refine cau_z hf n x y (fun q => tm m (tm m (u q) (y q ^^^ y n)) (inv m (x n ^^^ y q))) (fun i j hi hj => hxy i j (by omega) (by omega)) (fun i j hi hj => hx i j (by omega) (by omega)) (fun i j hi hj => hy i j (by omega) (by omega)) fun p hp => ?_
      have hne : x p ^^^ x n ≠ 0 := xor_nz fun e => by have := hx p n (by omega) (by omega) e; omega
      have e1 : dt m (fun q => tm m (x p ^^^ y n) (inv m (x p ^^^ y q)) ^^^ tm m (x n ^^^ y n) (inv m (x n ^^^ y q))) u n = 0 := by
        rw [dt_xor h0 h1 (fun q => tm m (x p ^^^ y n) (inv m (x p ^^^ y q))) (fun q => tm m (x n ^^^ y n) (inv m (x n ^^^ y q))) u n, row p (by omega), row n (by omega), UInt8.xor_self]
      have e2 : tm m (x p ^^^ x n) (dt m (fun q => inv m (x p ^^^ y q)) (fun q => tm m (tm m (u q) (y q ^^^ y n)) (inv m (x n ^^^ y q))) n) = 0 := by
        rw [← dt_sclL h0 h1, ← e1]
        refine dt_terms fun q hq => ?_
        have hA := xor_nz (hxy p q (by omega) (by omega))
        have hB := xor_nz (hxy n q (by omega) (by omega))
        have h := cau_term h0 h1 hf (z := y q ^^^ y n) (u := u q) hA hB
        rw [xor_can, xor_can, show x p ^^^ y q ^^^ (x n ^^^ y q) = x p ^^^ x n by rw [UInt8.xor_comm (x n) (y q), xor_can]] at h
        exact h.symm
      rcases tm_nz h0 h1 hf e2 with e | e
      · exact absurd e hne
      · exact e
    have hu : ∀ q, q < n → u q = 0 := fun q hq => by
      rcases tm_nz h0 h1 hf (hz q hq) with e | e
      · rcases tm_nz h0 h1 hf e with e | e
        · exact e
        · exact absurd e (xor_nz fun e => by have := hy q n (by omega) (by omega) e; omega)
      · have h := tm_inv h0 h1 hf (xor_nz (hxy n q (by omega) (by omega)))
        rw [e, tm_zeroR] at h
        exact absurd h (by decide)
    by_cases hjn : j = n
    · subst hjn
      rw [← row j (by omega)]
      exact dt_nil fun q hq => .inr (hu q hq)
    · exact hu j (by omega)
end
theorem kp_inj {C : Nat} (hC : C < 16) {p q : Nat} (hp : p < cn C 4) (hq : q < cn C 4) (h : kp C p = kp C q) : p = q := by
  have hl := cn_le C 4
  obtain ⟨_, _, h3⟩ := kp_lt C hC p (by omega) hp
  obtain ⟨_, _, h4⟩ := kp_lt C hC q (by omega) hq
  rw [h] at h3
  omega
theorem dt_mask {m C : Nat} (hC : C < 16) {r u : Nat → UInt8} (hu : ∀ j, j < 4 → C.testBit j = false → u j = 0) : ∀ J, J ≤ 4 → dt m r u J = dt m (fun q => r (kp C q)) (fun q => u (kp C q)) (cn C J)
  | 0, _ => rfl
  | J + 1, hJ => by
    have ih := dt_mask (m := m) (r := r) hC hu J (by omega)
    show dt m r u J ^^^ tm m (r J) (u J) = _
    cases hb : C.testBit J
    · rw [cn_f hb, hu J (by omega) hb, tm_zeroR, UInt8.xor_zero, ih]
    · rw [cn_t hb, ih]
      show _ = dt m _ _ (cn C J) ^^^ tm m (r (kp C (cn C J))) (u (kp C (cn C J)))
      rw [kp_cn C hC J (by omega) hb]
/-- The parts of a Cauchy matrix have full rank. -/
theorem cau_rank {m : Nat} (h0 : 256 ≤ m) (h1 : m < 512) (hf : fieldB m = true) {f g : Nat → UInt8} {a : Nat → UInt8} (ha : ∀ i j, i < 4 → j < 4 → a (i * 4 + j) = inv m (f i ^^^ g j)) (hfg : ∀ i j, i < 4 → j < 4 → f i ≠ g j)
    (hff : ∀ i j, i < 4 → j < 4 → f i = f j → i = j) (hgg : ∀ i j, i < 4 → j < 4 → g i = g j → i = j) {R C : Nat} (hR : R < 16) (hC : C < 16) (hle : cn C 4 ≤ cn R 4) : ¬ (rkS m (cn R 4) C (E0 R a) 4).r < cn C 4 := by
  rw [rank_ker h0 h1 hf (cn_le R 4)]
  rintro ⟨u, hu, hk, j, hj, hne⟩
  have hlR := cn_le R 4
  have hlC := cn_le C 4
  have kR : ∀ p, p < cn C 4 → kp R p < 4 := fun p hp => (kp_lt R hR p (by omega) (by omega)).1
  have kC : ∀ p, p < cn C 4 → kp C p < 4 := fun p hp => (kp_lt C hC p (by omega) hp).1
  have hz := cau_z h0 h1 hf (cn C 4) (fun p => f (kp R p)) (fun q => g (kp C q)) (fun q => u (kp C q)) (fun i j hi hj => hfg _ _ (kR i hi) (kC j hj))
    (fun i j hi hj e => kp_inj hR (by omega) (by omega) (hff _ _ (kR i hi) (kR j hj) e)) (fun i j hi hj e => kp_inj hC hi hj (hgg _ _ (kC i hi) (kC j hj) e)) (fun p hp => by
      have h := hk p (by omega)
      rw [dt_mask hC (fun j hj hb => Classical.byContradiction fun hne => by rw [hu j hj hne] at hb; cases hb) 4 (Nat.le_refl 4)] at h
      rw [← h]
      refine dt_cong (fun q hq => ?_) (fun _ _ => rfl)
      exact (ha _ _ (kR p hp) (kC q hq)).symm)
  have hb := hu j hj hne
  have hlt : cn C j < cn C 4 := Nat.lt_of_lt_of_le (by rw [cn_t hb]; omega) (cn_mono C (j := j + 1) 4 (by omega))
  have := hz (cn C j) hlt
  rw [kp_cn C hC j hj hb] at this
  exact hne this
end Go.Proofs.YtalbdgkbinndlaaDoor
/- Branch numbers: at least 1; no more than a column's elements and those that it is led to; 5 for Cauchy matrices. -/
namespace Go.Proofs.YtalbdgkbinndlaaDoor
set_option linter.unusedSimpArgs false
set_option linter.unusedVariables false
set_option maxRecDepth 20000
set_option maxHeartbeats 1000000
open Go.Abs

theorem brZ_pos : ∀ i, i < 240 → 1 ≤ brZ i := by decide +kernel
theorem brS_pos (m : Nat) (a : Nat → UInt8) : ∀ i, i ≤ 240 → 1 ≤ brS m a i
  | 0, _ => by show 1 ≤ 5; omega
  | i + 1, h => by
    have ih := brS_pos m a i (by omega)
    have h2 := brZ_pos i (by omega)
    unfold brS
    split
    · exact h2
    · exact ih
theorem brS_min (m : Nat) (a : Nat → UInt8) {i : Nat} (hb : brB m a i = true) : ∀ n, i < n → brS m a n ≤ brZ i
  | 0, h => absurd h (Nat.not_lt_zero i)
  | n + 1, h => by
    by_cases e : i = n
    · subst e
      by_cases hz : brZ i < brS m a i
      · rw [brS_yes hz hb]; exact Nat.le_refl _
      · rw [brS_no1 hz]; omega
    · have ih := brS_min m a hb n (by omega)
      unfold brS
      split
      · rename_i h2; omega
      · exact ih
/-- How many of the first elements are other than 0. -/
def nzc (f : Nat → UInt8) : Nat → Nat
  | 0 => 0
  | k + 1 => nzc f k + (if f k = 0 then 0 else 1)
theorem nzc_le (f : Nat → UInt8) : ∀ k, nzc f k ≤ k
  | 0 => Nat.le_refl _
  | k + 1 => by have := nzc_le f k; unfold nzc; split <;> omega
theorem nzc_cong {f g : Nat → UInt8} : ∀ k, (∀ i, i < k → f i = g i) → nzc f k = nzc g k
  | 0, _ => rfl
  | k + 1, h => by rw [nzc, nzc, nzc_cong k fun i hi => h i (by omega), h k (by omega)]
def zal (f : Nat → UInt8) : Nat → Bool
  | 0 => true
  | k + 1 => if f k = 0 then zal f k else false
theorem nzc_zero (f : Nat → UInt8) : nzc f 0 = 0 := rfl
theorem nzc_s0 {f : Nat → UInt8} {k : Nat} (h : f k = 0) : nzc f (k + 1) = nzc f k := by rw [nzc, if_pos h]; rfl
theorem nzc_s1 {f : Nat → UInt8} {k : Nat} (h : ¬ f k = 0) : nzc f (k + 1) = nzc f k + 1 := by rw [nzc, if_neg h]
theorem zal_zero (f : Nat → UInt8) : zal f 0 = true := rfl
theorem zal_s0 {f : Nat → UInt8} {k : Nat} (h : f k = 0) : zal f (k + 1) = zal f k := by rw [zal, if_pos h]
theorem zal_s1 {f : Nat → UInt8} {k : Nat} (h : ¬ f k = 0) : zal f (k + 1) = false := by rw [zal, if_neg h]
theorem zal_ex {f : Nat → UInt8} : ∀ k, zal f k = false → ∃ j, j < k ∧ f j ≠ 0
  | 0, h => by unfold zal at h; cases h
  | k + 1, h => by
    unfold zal at h
    split at h
    · obtain ⟨j, h1, h2⟩ := zal_ex k h
      exact ⟨j, by omega, h2⟩
    · rename_i hne; exact ⟨k, by omega, hne⟩
/-- The places of a column other than 0, as a mask. -/
def suM (u : Nat → UInt8) : Nat := (if u 0 = 0 then 0 else 1) + (if u 1 = 0 then 0 else 2) + (if u 2 = 0 then 0 else 4) + (if u 3 = 0 then 0 else 8)
theorem suM_lt (u : Nat → UInt8) : suM u < 16 := by unfold suM; split <;> split <;> split <;> split <;> omega
theorem suM_bit (u : Nat → UInt8) {t : Nat} (ht : t < 4) : (suM u).testBit t = true ↔ u t ≠ 0 := by
  unfold suM
  rcases (show t = 0 ∨ t = 1 ∨ t = 2 ∨ t = 3 by omega) with rfl | rfl | rfl | rfl <;> split <;> split <;> split <;> split <;> simp_all <;> decide
theorem suM_cn (u : Nat → UInt8) : ∀ k, k ≤ 4 → cn (suM u) k = nzc u k
  | 0, _ => rfl
  | k + 1, hk => by
    rw [nzc, ← suM_cn u k (by omega)]
    by_cases h : u k = 0
    · have hb : (suM u).testBit k = false := by
        cases hb : (suM u).testBit k
        · rfl
        · exact absurd h ((suM_bit u (by omega)).1 hb)
      rw [cn_f hb, if_pos h]; rfl
    · rw [cn_t ((suM_bit u (by omega)).2 h), if_neg h]
theorem flip16 : ∀ s, s < 16 → cn (15 - s) 4 = 4 - cn s 4 ∧ ∀ t, t < 4 → (15 - s).testBit t = !s.testBit t := by decide +kernel
theorem kp_lt2 : ∀ C, C < 16 → ∀ q, q < 4 → q < cn C 4 → kp C q < 4 ∧ C.testBit (kp C q) = true := fun C hC q hq h => ⟨(kp_lt C hC q hq h).1, (kp_lt C hC q hq h).2.1⟩
/-- A column has together with what it is led to at least as many elements other than 0. -/
theorem br_count {m : Nat} (h0 : 256 ≤ m) (h1 : m < 512) (hf : fieldB m = true) (a : Nat → UInt8) {u : Nat → UInt8} (hu : zal u 4 = false) : brS m a 240 ≤ nzc u 4 + nzc (D m a u) 4 := by
  obtain ⟨j, hj, hne⟩ := zal_ex 4 hu
  obtain ⟨C, hC⟩ : ∃ C, C = suM u := ⟨_, rfl⟩
  obtain ⟨s, hs⟩ : ∃ s, s = suM (D m a u) := ⟨_, rfl⟩
  have hC16 : C < 16 := by rw [hC]; exact suM_lt u
  have hs16 : s < 16 := by rw [hs]; exact suM_lt _
  have hCn : cn C 4 = nzc u 4 := by rw [hC]; exact suM_cn u 4 (Nat.le_refl _)
  have hsn : cn s 4 = nzc (D m a u) 4 := by rw [hs]; exact suM_cn _ 4 (Nat.le_refl _)
  have hC0 : C ≠ 0 := fun e => by
    have := (suM_bit u hj).2 hne
    rw [← hC, e, Nat.zero_testBit] at this
    cases this
  obtain ⟨f1, f2⟩ := flip16 s hs16
  have hi1 : ((C - 1) * 16 + (15 - s)) / 16 + 1 = C := by omega
  have hi2 : ((C - 1) * 16 + (15 - s)) % 16 = 15 - s := by omega
  have hb : brB m a ((C - 1) * 16 + (15 - s)) = true := by
    unfold brB
    rw [hi1, hi2]
    refine decide_eq_true ((rank_ker h0 h1 hf (cn_le (15 - s) 4) C (E0 (15 - s) a)).2 ⟨u, fun q hq hq2 => ?_, fun p hp => ?_, j, hj, hne⟩)
    · rw [hC]; exact (suM_bit u hq).2 hq2
    · have hl := cn_le (15 - s) 4
      obtain ⟨g1, g2⟩ := kp_lt2 (15 - s) (by omega) p (by omega) hp
      rw [f2 _ g1] at g2
      show D m a u (kp (15 - s) p) = 0
      refine Classical.byContradiction fun h => ?_
      have := (suM_bit (D m a u) g1).2 h
      rw [← hs] at this
      rw [this] at g2
      cases g2
  have hle := brS_min m a hb 240 (by omega)
  have hz : brZ ((C - 1) * 16 + (15 - s)) = cn C 4 + 4 - cn (15 - s) 4 := by unfold brZ; rw [hi1, hi2]
  have hl := cn_le s 4
  omega
/-- The branch number of a Cauchy matrix. -/
theorem br_cauchy {m : Nat} (h0 : 256 ≤ m) (h1 : m < 512) (hf : fieldB m = true) {f g : Nat → UInt8} (ht : twiceP (catF 4 f g) 8 = false) : ∀ n, n ≤ 240 → brS m (cauF m f g) n = 5
  | 0, _ => rfl
  | n + 1, hn => by
    have ih := br_cauchy h0 h1 hf ht n (by omega)
    have hd := (twice_iff (catF 4 f g) 8).1 ht
    have eL : ∀ i, i < 4 → catF 4 f g i = f i := fun i hi => if_pos hi
    have eR : ∀ i, catF 4 f g (4 + i) = g i := fun i => by
      show (if 4 + i < 4 then f (4 + i) else g (4 + i - 4)) = g i
      rw [if_neg (by omega), Nat.add_sub_cancel_left]
    rw [brS, ih, if_neg]
    rintro ⟨hz, hb⟩
    unfold brB at hb
    have hb := of_decide_eq_true hb
    have hc1 := cn_le (n / 16 + 1) 4
    have hc2 := cn_le (n % 16) 4
    unfold brZ at hz
    refine cau_rank h0 h1 hf (f := f) (g := g) (a := cauF m f g) (fun i j hi hj => (cau_at (m := m) (i := i) (f := f) (g := g) hj).symm) (fun i j hi hj e => ?_) (fun i j hi hj e => ?_) (fun i j hi hj e => ?_) (R := n % 16) (C := n / 16 + 1) (Nat.mod_lt _ (by decide)) (by omega) (by omega) hb
    · have := hd i (4 + j) (by omega) (by omega) (by rw [eL i hi, eR]; exact e)
      omega
    · exact hd i j (by omega) (by omega) (by rw [eL i hi, eL j hj]; exact e)
    · have := hd (4 + i) (4 + j) (by omega) (by omega) (by rw [eR, eR]; exact e)
      omega
end Go.Proofs.YtalbdgkbinndlaaDoor
/- FnBranches. -/
namespace Go.Proofs.YtalbdgkbinndlaaDoor
set_option linter.unusedSimpArgs false
set_option linter.unusedVariables false
set_option maxRecDepth 20000
set_option maxHeartbeats 1000000
open Go.Abs

theorem cutB_free {c : UInt8} : ∀ {l : List UInt8}, (∀ x, x ∈ l → x ≠ c) → cutL c l = [l]
  | [], _ => rfl
  | b :: l, h => by
    rw [cutL_other (h b (List.mem_cons_self ..)), cutB_free fun x hx => h x (List.mem_cons_of_mem _ hx)]; rfl
theorem cutB_at {c : UInt8} : ∀ {l : List UInt8} (r : List UInt8), (∀ x, x ∈ l → x ≠ c) → cutL c (l ++ c :: r) = l :: cutL c r
  | [], r, _ => cutL_eq c r
  | b :: l, r, h => by
    rw [List.cons_append, cutL_other (h b (List.mem_cons_self ..)), cutB_at r fun x hx => h x (List.mem_cons_of_mem _ hx)]; rfl
theorem hxB_no47 (f : Nat → UInt8) (n : Nat) : ∀ x, x ∈ hx f n → x ≠ 47 := fun x hx e => by
  have h := hx_filter f n
  subst e
  rw [← h] at hx
  exact absurd (List.mem_filter.1 hx).2 (by decide)
theorem spA_mtT (a : Nat → UInt8) : spA (mtT a) 47 = [hxT (fun t => a (0 * 4 + t)) 4, hxT (fun t => a (1 * 4 + t)) 4, hxT (fun t => a (2 * 4 + t)) 4, hxT (fun t => a (3 * 4 + t)) 4] := map_ba (by
  rw [spA_cut, mtT_list]
  simp only [List.cons_append, List.nil_append]
  rw [cutB_at _ (hxB_no47 _ 4), cutB_at _ (hxB_no47 _ 4), cutB_at _ (hxB_no47 _ 4), cutB_free (hxB_no47 _ 4)]
  rfl)
theorem pc_mtT (a : Nat → UInt8) {i : Nat} (hi : i < 4) : pcF (mtT a) i = hxT (fun t => a (i * 4 + t)) 4 := by
  unfold pcF
  rw [spA_mtT]
  rcases (show i = 0 ∨ i = 1 ∨ i = 2 ∨ i = 3 by omega) with rfl | rfl | rfl | rfl <;> rfl
/-- A matrix's text is parsed to the matrix. -/
theorem pm_mtT (a : Nat → UInt8) : pmC (mtT a) = 0 ∧ Bs 16 (pmF (mtT a)) = Bs 16 a := by
  have hr : ∀ i, i < 4 → rowOk (pcF (mtT a) i) = true := fun i hi => by
    rw [pc_mtT a hi]
    unfold rowOk
    rw [(hxT_good _ 4).1, hxT_size]; rfl
  have hok : pmOk (mtT a) = true := by
    unfold pmOk
    rw [spA_mtT]
    have hall : allT (fun i => rowOk (pcF (mtT a) i)) 4 = true := by simpa [allT] using hr
    rw [hall]; rfl
  refine ⟨by unfold pmC; rw [if_pos hok], Bs_congr fun i hi => ?_⟩
  unfold pmF
  rw [if_pos hok]
  show unV (pcF (mtT a) (i / 4)) (i % 4) = a i
  rw [pc_mtT a (by omega), (hxT_good _ 4).2 (i % 4) (by omega), show i / 4 * 4 + i % 4 = i by omega]
theorem nzc_mix (p : Nat) (a u : Nat → UInt8) : nzc (D p a u) 4 = nzc (mixF p a u) 4 := nzc_cong 4 fun i hi => by
  show _ = mxP p a u (i / 4) (i % 4) 4
  rw [mix_D, show i / 4 = 0 by omega, show i % 4 = i by omega]
  exact dt_cong (fun _ _ => rfl) fun t _ => by rw [Nat.mul_zero, Nat.zero_add]
/-- Circulants: both sides' answer. -/
theorem cir_op {h : List Blk} {b n : Nat} {f : Nat → UInt8} (hb : h[b]? = some ⟨Bs n f, true⟩) (hn : n ≤ 5) : ∃ (w : Nat → UInt8) (c : Int), (∀ L, AC Tryd.prog 15 [sl b 0 n 1] (h ++ L) (.tuple #[.agg (Bs 16 w).toArray, .int .i64 c]) (h ++ L)) ∧ (∀ L, AC Tryd.prog 16 [sl b 0 n 1] (h ++ L) (.tuple #[.agg (Bs 16 w).toArray, .int .i64 c]) (h ++ L)) := by
  by_cases h4 : n = 4
  · subst h4
    exact ⟨_, 0, fun L => cirI_ok (look_old hb L), fun L => cirS_ok (look_old hb L)⟩
  · exact ⟨_, 2, fun L => cirI_no h4 (by omega) _, fun L => cirS_no h4 (by omega) _⟩
/-- Branch numbers: both sides' answer. -/
theorem bra_op (m : Int) (a : Nat → UInt8) : ∃ (v c : Int), (∀ h, AC Tryd.prog 6 [.int .i64 m, .agg (Bs 16 a).toArray] h (.tuple #[.int .i64 v, .int .i64 c]) h) ∧ (∀ h, AC Tryd.prog 7 [.int .i64 m, .agg (Bs 16 a).toArray] h (.tuple #[.int .i64 v, .int .i64 c]) h) ∧
    ((c == 0) = false ∨ (c = 0 ∧ ∃ p : Nat, m = p ∧ fieldB p = true ∧ 256 ≤ p ∧ p < 512 ∧ v = ((brS p a 240 : Nat) : Int))) := by
  cases hf : fieldB m.toNat
  · refine ⟨0, 1, fun h => ?_, fun h => ?_, .inl rfl⟩
    · have := brOI_ac m a h; rw [hf] at this; exact this
    · have := brOS_ac m a h; rw [hf] at this; exact this
  · obtain ⟨p, rfl, hp, h0, h1⟩ := fieldB_nat hf
    refine ⟨((brS p a 240 : Nat) : Int), 0, fun h => ?_, fun h => ?_, .inr ⟨rfl, p, rfl, hp, h0, h1, rfl⟩⟩
    · have := brOI_ac (p : Int) a h; rw [hf] at this; exact this
    · have := brOS_ac (p : Int) a h; rw [hf] at this; exact this
/-- The law's dice. -/
structure BrD where
  M : List Blk
  f : Nat → UInt8
theorem cauC_is (m : Int) (n n' : Nat) (f g : Nat → UInt8) : (cauC m n n' f g == 0) = false ∨ (cauC m n n' f g = 0 ∧ fieldB m.toNat = true ∧ cauM m n n' f g = cauF m.toNat f g ∧ twiceP (catF 4 f g) 8 = false) := by
  unfold cauC cauM
  cases fieldB m.toNat
  · exact .inl rfl
  · cases n == 4
    · exact .inl rfl
    · cases n' == 4
      · exact .inl rfl
      · cases twiceP (catF 4 f g) 8
        · exact .inr ⟨rfl, rfl, rfl, rfl⟩
        · exact .inl rfl
attribute [local irreducible] brS cauM cauC pmF pmC mtT nzc zal mixF D
set_option maxHeartbeats 16000000 in
theorem fnBranches_ok {h : List Blk} {cv : Value} (c : Cv h cv) : AC Tryd.prog 3 [cv] h (.bool true) h := by
  have hbg := big_ac c
  obtain ⟨m1, f1, d1⟩ := drBrn_op c
  obtain ⟨bn, bc, bI, bS, hbr1⟩ := bra_op m1 f1
  obtain ⟨K1, hK1⟩ : ∃ M, M = h ++ [⟨Bs 16 f1, true⟩] := ⟨_, rfl⟩
  have k10 : K1[h.length]? = some ⟨Bs 16 f1, true⟩ := by rw [hK1]; simp
  have EK1 : ∃ A, K1 = h ++ A := ⟨_, hK1⟩
  have nK1 := app_len EK1
  have v1 : Cv K1 cv := cv_app c EK1
  have ovK : OldV K1.length cv := c.old nK1
  obtain ⟨h2, s2, e2, r2⟩ := roll_aft v1 902 (by omega)
  have e2' : ∃ A, h2 = K1 ++ A := e2
  have l2 := app_len e2'
  have k20 : h2[h.length]? = some ⟨Bs 16 f1, true⟩ := by obtain ⟨A, e⟩ := e2'; rw [e]; exact look_old k10 A
  have lk1 := blt k10
  have a2 := s2.more [⟨Bs 16 zeroF, true⟩]
  obtain ⟨st, e0, hI, hRt⟩ := seq_ex (S := BrD) (n := 4)
    (I := fun k t => t.M[h2.length]? = some ⟨Bs 16 t.f, true⟩ ∧ t.M[h.length]? = some ⟨Bs 16 f1, true⟩ ∧ Aft h2 t.M K1.length cv)
    (R := fun k t u => ∃ (x : Nat) (M1 : List Blk), AC Tryd.prog 9 [pt K1.length 0, .int .i64 ((2 : Nat) : Int)] t.M (.int .i64 x) M1 ∧ (((x == 0) = false ∧ u = ⟨M1, t.f⟩) ∨ (x = 0 ∧ ∃ (y : Nat) (M2 : List Blk), y < 256 ∧ AC Tryd.prog 9 [pt K1.length 0, .int .i64 ((256 : Nat) : Int)] M1 (.int .i64 y) M2 ∧ M2[h2.length]? = some ⟨Bs 16 t.f, true⟩ ∧ u = ⟨M2.set h2.length ⟨Bs 16 (upd t.f k (UInt8.ofNat y)), true⟩, upd t.f k (UInt8.ofNat y)⟩)))
    ⟨h2 ++ [⟨Bs 16 zeroF, true⟩], zeroF⟩ ⟨by show (h2 ++ [_])[h2.length]? = _; simp, look_old k20 _, a2⟩ (fun k hk t0 ⟨i1, i2, i3⟩ => by
      have lb := s2.lt
      obtain ⟨x, M1, hx, b1, g1⟩ := below_aft i3.src (N := 2) (by omega) (by omega)
      have j1 := b1.keep _ _ (by omega) i1
      have j2 := b1.keep _ _ (by omega) i2
      by_cases h0 : x = 0
      · obtain ⟨y, M2, hy, b2, g2⟩ := below_aft b1.src (N := 256) (by omega) (by omega)
        have q1 := b2.keep _ _ (by omega) j1
        have q2 := b2.keep _ _ (by omega) j2
        exact ⟨_, ⟨look_set (blt q1), set_at q2 (by omega), ((i3.trans b1).trans b2).set s2 (i := h2.length) (Nat.le_refl _) _⟩, x, M1, g1, .inr ⟨h0, y, M2, hy, g2, q1, rfl⟩⟩
      · exact ⟨⟨M1, t0.f⟩, ⟨j1, j2, i3.trans b1⟩, x, M1, g1, .inl ⟨by simpa using h0, rfl⟩⟩)
  obtain ⟨Mq, hMq⟩ : ∃ Mq, Mq = (st 4).M := ⟨_, rfl⟩
  obtain ⟨u, hu⟩ : ∃ u, u = (st 4).f := ⟨_, rfl⟩
  obtain ⟨z1, z2, z3⟩ := hI 4 (Nat.le_refl _)
  rw [← hMq, ← hu] at z1
  rw [← hMq] at z2 z3
  have lq1 := z3.len
  have lq2 := blt z1
  obtain ⟨Lq, hLq⟩ : ∃ L, Mq = K1 ++ L := z3.app K1 (Nat.le_refl _) e2'
  obtain ⟨m2, n2, b2, c2, f2, g2, H2, hn2, hb2, hc2, e3, v3, d2⟩ := drCau_op v1
  have kI := cauI_ac m2 hb2 hc2 (by omega) (by omega)
  obtain ⟨cm, hcm⟩ : ∃ cm, cm = cauM m2 n2 4 f2 g2 := ⟨_, rfl⟩
  obtain ⟨cc, hcc⟩ : ∃ cc, cc = cauC m2 n2 4 f2 g2 := ⟨_, rfl⟩
  have kS := cauS_ac m2 (look_old hb2 [⟨Bs 16 cm, true⟩]) (look_old hc2 [⟨Bs 16 cm, true⟩]) (by omega) (by omega)
  rw [← hcm, ← hcc] at kI kS
  have hcq := cauC_is m2 n2 4 f2 g2
  rw [← hcm, ← hcc] at hcq
  obtain ⟨K2, hK2⟩ : ∃ M, M = H2 ++ [⟨Bs 16 cm, true⟩, ⟨Bs 16 cm, true⟩] := ⟨_, rfl⟩
  have k21 : K2[H2.length]? = some ⟨Bs 16 cm, true⟩ := by rw [hK2]; simp
  have k22 : K2[H2.length + 1]? = some ⟨Bs 16 cm, true⟩ := by rw [hK2]; simp
  have E2 : ∃ A, K2 = h ++ A := by rw [hK2]; exact app_app (app_tr EK1 e3)
  have nK2 := app_len E2
  have nH2 := app_len (app_tr EK1 e3)
  obtain ⟨f3, n3, b3, H3, hn3, e4, v4, hb3, d3⟩ := drCir_op (cv_app c E2 : Cv K2 cv)
  obtain ⟨w3, c3, dI, dS⟩ := cir_op hb3 hn3
  have dI0 := dI []
  rw [List.append_nil] at dI0
  have dS1 := dS [⟨Bs 16 w3, true⟩]
  obtain ⟨K3, hK3⟩ : ∃ M, M = H3 ++ [⟨Bs 16 w3, true⟩, ⟨Bs 16 w3, true⟩] := ⟨_, rfl⟩
  have k30 : K3[H3.length]? = some ⟨Bs 16 w3, true⟩ := by rw [hK3]; simp
  have k31 : K3[H3.length + 1]? = some ⟨Bs 16 w3, true⟩ := by rw [hK3]; simp
  have E3 : ∃ A, K3 = h ++ A := by rw [hK3]; exact app_app (app_tr E2 e4)
  have nK3 := app_len E3
  have nH3 := app_len (app_tr E2 e4)
  obtain ⟨f4, d4⟩ := drMat_op (cv_app c E3 : Cv K3 cv)
  obtain ⟨hp1, hp2⟩ := pm_mtT f4
  have hpm : ∀ H, AC Tryd.prog 19 [.string (mtT f4)] H (.tuple #[.agg (Bs 16 f4).toArray, .int .i64 0]) H := fun H => by
    have := pmI_ac (s := mtT f4) (by rw [mtT_size]; omega) H
    rw [hp1, hp2] at this
    exact this
  obtain ⟨K4, hK4⟩ : ∃ M, M = K3 ++ [⟨Bs 16 f4, true⟩, ⟨Bs 16 f4, true⟩] := ⟨_, rfl⟩
  have k41 : K4[K3.length]? = some ⟨Bs 16 f4, true⟩ := by rw [hK4]; simp
  have k42 : K4[K3.length + 1]? = some ⟨Bs 16 f4, true⟩ := by rw [hK4]; simp
  have k30' : K4[H3.length]? = some ⟨Bs 16 w3, true⟩ := by rw [hK4]; exact look_old k30 _
  have k31' : K4[H3.length + 1]? = some ⟨Bs 16 w3, true⟩ := by rw [hK4]; exact look_old k31 _
  have E4 : ∃ A, K4 = h ++ A := by rw [hK4]; exact app_app E3
  have nK4 := app_len E4
  obtain ⟨t5, H5, ht5, e5, v5, d5⟩ := drPam_op (cv_app c E4 : Cv K4 cv)
  have p5I := fun H => pmI_ac (s := t5) ht5 H
  have p5S := fun H => pmS_ac (s := t5) ht5 H
  obtain ⟨K5, hK5⟩ : ∃ M, M = H5 ++ [⟨Bs 16 (pmF t5), true⟩, ⟨Bs 16 (pmF t5), true⟩] := ⟨_, rfl⟩
  have k50 : K5[H5.length]? = some ⟨Bs 16 (pmF t5), true⟩ := by rw [hK5]; simp
  have k51 : K5[H5.length + 1]? = some ⟨Bs 16 (pmF t5), true⟩ := by rw [hK5]; simp
  have E45 : ∃ A, K5 = K4 ++ A := by rw [hK5]; exact app_app e5
  have y0 : K5[H3.length]? = some ⟨Bs 16 w3, true⟩ := by obtain ⟨A, e⟩ := E45; rw [e]; exact look_old k30' A
  have y1 : K5[H3.length + 1]? = some ⟨Bs 16 w3, true⟩ := by obtain ⟨A, e⟩ := E45; rw [e]; exact look_old k31' A
  have y2 : K5[K3.length]? = some ⟨Bs 16 f4, true⟩ := by obtain ⟨A, e⟩ := E45; rw [e]; exact look_old k41 A
  have y3 : K5[K3.length + 1]? = some ⟨Bs 16 f4, true⟩ := by obtain ⟨A, e⟩ := E45; rw [e]; exact look_old k42 A
  obtain ⟨A5, hA5⟩ := app_tr E4 E45
  have nK5 := app_len (app_tr E4 E45)
  have nH5 := app_len (app_tr E4 e5)
  (refine AC_begin (fun _ _ => Tryd.call3 _ _) Tryd.func3 rfl Tryd.ntmps3 Tryd.results3 (fun hwf => ?_); simp only [List.length_cons, List.length_nil, Nat.reduceAdd, Nat.reduceSub, List.replicate, List.cons_append, List.nil_append])
  (repeat (first | ((first | (refine And.intro ?_ ?_; focus exact PLA) | ((first | with_reducible apply callB_i | with_reducible apply callK_intro | with_reducible apply callQ_i); (focus (first | assumption | ((first | with_reducible apply hbg | with_reducible apply d1) <;> (first | assumption | rfl | (simp (disch := omega) only [go_sem]; first | done | rfl) | omega | decide | (simp; done))))); (try exact WP_au)) | refine WA_seq (WA_region (id := 0) ?_) | refine WA_region (id := 0) ?_ | refine WA_seq (WA_region (id := 1) ?_) | refine WA_region (id := 1) ?_ | refine WA_seq (WA_region (id := 3) ?_) | refine WA_region (id := 3) ?_ | refine WA_exit ?_); try simp (maxSteps := 1000000) (disch := first | omega | rfl | decide | (simp only [List.length_cons, List.length_nil, List.length_append, LV] <;> omega)) only [go_sem, Nat.reduceAdd, Int.reduceAdd, Int.reduceSub, Int.reduceMul, Bool.not_true, Bool.not_false, bne_self_eq_false, Bool.not_true, yieldA_at 2 71, yieldA_at 2 115, yieldA_at 2 162, yieldA_at 3 62, yieldA_at 3 147, yieldA_at 3 202, yieldA_at 5 118, yieldA_at 8 207, yieldA_at 14 213, yieldA_at 18 217, yieldA_at 23 222, yieldA_at 28 227]) | refine WA_seq ?_ | refine WA_block ?_ | (refine WA_skip ?_; try simp only [go_sem]) | (refine WA_ret ?_; try simp only [go_sem]) | refine WA_ct rfl ?_ | refine WA_cf rfl ?_))
  rw [← hK1]
  (repeat (first | ((first | (refine And.intro ?_ ?_; focus exact PLA) | ((first | with_reducible apply callB_i | with_reducible apply callK_intro | with_reducible apply callQ_i); (focus (first | assumption | ((first | with_reducible apply bI | with_reducible apply bS) <;> (first | assumption | rfl | (simp (disch := omega) only [go_sem]; first | done | rfl) | omega | decide | (simp; done))))); (try exact WP_au)) | refine WA_seq (WA_region (id := 4) ?_) | refine WA_region (id := 4) ?_ | refine WA_seq (WA_region (id := 5) ?_) | refine WA_region (id := 5) ?_ | refine WA_seq (WA_region (id := 6) ?_) | refine WA_region (id := 6) ?_ | refine WA_exit ?_); try simp (maxSteps := 1000000) (disch := first | omega | rfl | decide | (simp only [List.length_cons, List.length_nil, List.length_append, LV] <;> omega)) only [go_sem, Nat.reduceAdd, Int.reduceAdd, Int.reduceSub, Int.reduceMul, Bool.not_true, Bool.not_false, bne_self_eq_false, Bool.not_true, k10, yieldA_at 2 71, yieldA_at 2 115, yieldA_at 2 162, yieldA_at 3 62, yieldA_at 3 147, yieldA_at 3 202, yieldA_at 5 118, yieldA_at 8 207, yieldA_at 14 213, yieldA_at 18 217, yieldA_at 23 222, yieldA_at 28 227]) | refine WA_seq ?_ | refine WA_block ?_ | (refine WA_skip ?_; try simp only [go_sem]) | (refine WA_ret ?_; try simp only [go_sem]) | refine WA_ct rfl ?_ | refine WA_cf rfl ?_))
  refine WA_wf fun hwf1 => ?_
  refine WA_mid2 [(2, J), (3, J), (4, J), (5, J), (6, J), (7, J), (8, J), (9, J), (10, J), (11, J), (12, J), (13, J), (14, J), (15, J), (16, J), (42, J), (43, J), (44, J), (45, J), (46, J), (47, J), (48, J), (49, J), (50, J), (51, J), (52, J), (53, J), (54, J), (55, J), (56, J), (57, J), (58, J), (59, J), (60, J), (61, J), (62, J), (63, J), (64, J), (65, J), (66, J), (67, J), (68, J), (69, J), (70, J), (71, J), (72, J), (73, J), (74, J), (75, J), (76, J), (77, J), (78, J), (79, J), (80, J), (81, J), (82, J), (83, J), (84, J), (85, J), (86, J), (87, J), (88, J), (89, J), (90, J), (91, J), (92, J), (93, J), (94, J), (95, J), (96, J), (97, J), (98, J), (99, J), (100, J), (101, J), (102, J), (103, J), (104, J), (105, J), (106, J), (107, J), (108, J), (109, J), (110, J), (111, J), (112, J), (113, J), (114, J), (115, J), (116, J), (117, J), (118, J), (119, J), (120, J), (121, J), (122, J), (123, J)] (K1) ?_ ?_ <;> (try simp only [patT_cons, patT_nil, patL_cons, patL_nil, list_set_zero, list_set_succ, blk_set_zero, blk_set_succ])
  · rcases hbr1 with hz | ⟨rfl, p, rfl, hp, h0, h1, rfl⟩
    · (refine sN (And.intro @hz (And.intro (@yieldA_at 2 71) (And.intro (@yieldA_at 2 115) (And.intro (@yieldA_at 2 162) (And.intro (@yieldA_at 3 62) (And.intro (@yieldA_at 3 147) (And.intro (@yieldA_at 3 202) (And.intro (@yieldA_at 5 118) (And.intro (@yieldA_at 8 207) (And.intro (@yieldA_at 14 213) (And.intro (@yieldA_at 18 217) (And.intro (@yieldA_at 23 222) (@yieldA_at 28 227))))))))))))) ?_)
      (exact sA0)
    · skip
      have q1 : decide (((brS p f1 240 : Nat) : Int) < 1) = false := decide_eq_false (by have := brS_pos p f1 240 (by omega); omega)
      have q2 : decide ((5 : Int) < ((brS p f1 240 : Nat) : Int)) = false := decide_eq_false (by have := brS_le p f1 240; omega)
      (refine sW (And.intro @q1 (And.intro @q2 (And.intro (@yieldA_at 2 71) (And.intro (@yieldA_at 2 115) (And.intro (@yieldA_at 2 162) (And.intro (@yieldA_at 3 62) (And.intro (@yieldA_at 3 147) (And.intro (@yieldA_at 3 202) (And.intro (@yieldA_at 5 118) (And.intro (@yieldA_at 8 207) (And.intro (@yieldA_at 14 213) (And.intro (@yieldA_at 18 217) (And.intro (@yieldA_at 23 222) (@yieldA_at 28 227)))))))))))))) @r2 ?_)
      refine WA_forH (fun k => [(11, .int .i64 k), (78, J), (79, J), (80, J), (81, J), (82, J), (83, J), (84, J), (85, J), (86, J), (87, J), (88, J), (89, J)]) (fun k => (st k).M) (4) ?_ ?_ ?_ <;> (try simp only [patT_cons, patT_nil, patL_cons, patL_nil, list_set_zero, list_set_succ, blk_set_zero, blk_set_succ])
      · have w0 : (st 0).M = h2 ++ [⟨Bs 16 zeroF, true⟩] := by rw [e0]
        rw [w0]
        have nl : h.length ≤ (h2 ++ [(⟨Bs 16 zeroF, true⟩ : Blk)]).length := by simp; omega
        (exact sA0)
      · intro k hk
        obtain ⟨x, M1, g1, hc⟩ := hRt k hk
        have q1 := (hI (k + 1) hk).2.2.len
        have q3 : h.length ≤ (st (k + 1)).M.length := by omega
        rcases hc with ⟨hx0, e⟩ | ⟨rfl, y, M2, hy, g2, j1, e⟩
        · rw [e] at q3 ⊢
          (refine sW (And.intro @hx0 (And.intro (@yieldA_at 2 71) (And.intro (@yieldA_at 2 115) (And.intro (@yieldA_at 2 162) (And.intro (@yieldA_at 3 62) (And.intro (@yieldA_at 3 147) (And.intro (@yieldA_at 3 202) (And.intro (@yieldA_at 5 118) (And.intro (@yieldA_at 8 207) (And.intro (@yieldA_at 14 213) (And.intro (@yieldA_at 18 217) (And.intro (@yieldA_at 23 222) (@yieldA_at 28 227))))))))))))) @g1 ?_)
          (exact sA0)
        · rw [e] at q3 ⊢
          (refine sW (And.intro @j1 (And.intro (@yieldA_at 2 71) (And.intro (@yieldA_at 2 115) (And.intro (@yieldA_at 2 162) (And.intro (@yieldA_at 3 62) (And.intro (@yieldA_at 3 147) (And.intro (@yieldA_at 3 202) (And.intro (@yieldA_at 5 118) (And.intro (@yieldA_at 8 207) (And.intro (@yieldA_at 14 213) (And.intro (@yieldA_at 18 217) (And.intro (@yieldA_at 23 222) (@yieldA_at 28 227))))))))))))) (And.intro @g1 @g2) ?_)
          (exact sA0)
      · rw [← hMq]
        have hlq : h.length ≤ Mq.length := by omega
        have hmix : ∀ H, AC Tryd.prog 10 [.int .i64 (p : Int), .agg (Bs 16 f1).toArray, .agg (Bs 16 u).toArray] H (.tuple #[.agg (Bs 16 (mixF p f1 u)).toArray, .int .i64 0]) H := fun H => by
          have := mixBlockI_ac (p : Int) f1 u H
          rw [Int.toNat_natCast, if_pos hp, if_pos hp] at this
          exact this
        have nlq : h.length ≤ (Mq ++ [(⟨Bs 16 (mixF p f1 u), true⟩ : Blk)]).length := by simp; omega
        (refine sW (And.intro @z1 (And.intro @z2 (And.intro (@yieldA_at 2 71) (And.intro (@yieldA_at 2 115) (And.intro (@yieldA_at 2 162) (And.intro (@yieldA_at 3 62) (And.intro (@yieldA_at 3 147) (And.intro (@yieldA_at 3 202) (And.intro (@yieldA_at 5 118) (And.intro (@yieldA_at 8 207) (And.intro (@yieldA_at 14 213) (And.intro (@yieldA_at 18 217) (And.intro (@yieldA_at 23 222) (@yieldA_at 28 227)))))))))))))) @hmix ?_)
        refine WA_forH (fun k => [(14, .int .i64 ((nzc u k + nzc (mixF p f1 u) k : Nat) : Int)), (15, .bool (zal u k)), (16, .int .i64 k), (97, J), (98, J), (99, J), (100, J), (101, J), (102, J), (103, J), (104, J), (105, J), (106, J), (107, J), (108, J), (109, J), (110, J), (111, J), (112, J)]) (fun k => Mq ++ [⟨Bs 16 (mixF p f1 u), true⟩]) (4) ?_ ?_ ?_ <;> (try simp only [patT_cons, patT_nil, patL_cons, patL_nil, list_set_zero, list_set_succ, blk_set_zero, blk_set_succ])
        · (exact sA (And.intro @nzc_zero @zal_zero))
        · intro k hk
          have n1 := nzc_le u k
          have n2 := nzc_le (mixF p f1 u) k
          have lk := look_old z1 [⟨Bs 16 (mixF p f1 u), true⟩]
          by_cases g1 : u k = 0 <;> by_cases g2 : mixF p f1 u k = 0
          · (refine sN (And.intro @lk (And.intro @g1 (And.intro @g2 (And.intro (@yieldA_at 2 71) (And.intro (@yieldA_at 2 115) (And.intro (@yieldA_at 2 162) (And.intro (@yieldA_at 3 62) (And.intro (@yieldA_at 3 147) (And.intro (@yieldA_at 3 202) (And.intro (@yieldA_at 5 118) (And.intro (@yieldA_at 8 207) (And.intro (@yieldA_at 14 213) (And.intro (@yieldA_at 18 217) (And.intro (@yieldA_at 23 222) (@yieldA_at 28 227))))))))))))))) ?_)
            (exact sA (And.intro (nzc_s0 g1) (And.intro (nzc_s0 g2) (zal_s0 g1))))
          · have g2' : (mixF p f1 u k != 0) = true := by simpa using g2
            (refine sN (And.intro @lk (And.intro @g1 (And.intro @g2' (And.intro (@yieldA_at 2 71) (And.intro (@yieldA_at 2 115) (And.intro (@yieldA_at 2 162) (And.intro (@yieldA_at 3 62) (And.intro (@yieldA_at 3 147) (And.intro (@yieldA_at 3 202) (And.intro (@yieldA_at 5 118) (And.intro (@yieldA_at 8 207) (And.intro (@yieldA_at 14 213) (And.intro (@yieldA_at 18 217) (And.intro (@yieldA_at 23 222) (@yieldA_at 28 227))))))))))))))) ?_)
            (refine Drop_slots (by first | assumption | exact Nat.le_refl _) ?_; focus ((try simp only [JL_same, JL_J, JL_nil, Int.reduceAdd, Nat.sub_sub, Int.natCast_add, Int.natCast_one, Int.natCast_zero, Int.cast_ofNat_Int, Nat.add_zero, Bool.false_eq_true, if_false, if_true, nzc_s0 g1, nzc_s1 g2, zal_s0 g1, ← Nat.add_assoc]); (try exact JL_refl _)))
          · have g1' : (u k != 0) = true := by simpa using g1
            (refine sN (And.intro @lk (And.intro @g1' (And.intro @g2 (And.intro (@yieldA_at 2 71) (And.intro (@yieldA_at 2 115) (And.intro (@yieldA_at 2 162) (And.intro (@yieldA_at 3 62) (And.intro (@yieldA_at 3 147) (And.intro (@yieldA_at 3 202) (And.intro (@yieldA_at 5 118) (And.intro (@yieldA_at 8 207) (And.intro (@yieldA_at 14 213) (And.intro (@yieldA_at 18 217) (And.intro (@yieldA_at 23 222) (@yieldA_at 28 227))))))))))))))) ?_)
            (exact sA (And.intro (nzc_s1 g1) (And.intro (nzc_s0 g2) (And.intro (zal_s1 g1) @Nat.add_right_comm))))
          · have g1' : (u k != 0) = true := by simpa using g1
            have g2' : (mixF p f1 u k != 0) = true := by simpa using g2
            (refine sN (And.intro @lk (And.intro @g1' (And.intro @g2' (And.intro (@yieldA_at 2 71) (And.intro (@yieldA_at 2 115) (And.intro (@yieldA_at 2 162) (And.intro (@yieldA_at 3 62) (And.intro (@yieldA_at 3 147) (And.intro (@yieldA_at 3 202) (And.intro (@yieldA_at 5 118) (And.intro (@yieldA_at 8 207) (And.intro (@yieldA_at 14 213) (And.intro (@yieldA_at 18 217) (And.intro (@yieldA_at 23 222) (@yieldA_at 28 227))))))))))))))) ?_)
            (refine Drop_slots (by first | assumption | exact Nat.le_refl _) ?_; focus ((try simp only [JL_same, JL_J, JL_nil, Int.reduceAdd, Nat.sub_sub, Int.natCast_add, Int.natCast_one, Int.natCast_zero, Int.cast_ofNat_Int, Nat.add_zero, Bool.false_eq_true, if_false, if_true, nzc_s1 g1, nzc_s1 g2, zal_s1 g1, ← Nat.add_assoc, Nat.add_right_comm]); (try exact JL_refl _)))
        · cases hz : zal u 4
          · have hbc := br_count h0 h1 hp f1 hz
            rw [nzc_mix] at hbc
            have g3 : decide (((nzc u 4 + nzc (mixF p f1 u) 4 : Nat) : Int) < ((brS p f1 240 : Nat) : Int)) = false := decide_eq_false (by omega)
            (refine sN (And.intro @hz (And.intro @g3 (And.intro (@yieldA_at 2 71) (And.intro (@yieldA_at 2 115) (And.intro (@yieldA_at 2 162) (And.intro (@yieldA_at 3 62) (And.intro (@yieldA_at 3 147) (And.intro (@yieldA_at 3 202) (And.intro (@yieldA_at 5 118) (And.intro (@yieldA_at 8 207) (And.intro (@yieldA_at 14 213) (And.intro (@yieldA_at 18 217) (And.intro (@yieldA_at 23 222) (@yieldA_at 28 227)))))))))))))) ?_)
            rw [hLq, List.append_assoc]
            (refine Drop_gc0 (by first | assumption | exact Nat.le_refl _ | first | assumption | omega | (simp only [List.length_append, List.length_cons, List.length_nil, List.length_replicate]; omega)) (by assumption) ?_; (focus (repeat (first | exact JR_nil | refine JR_J ?_ | (refine JR_plain ?_ ?_; (focus first | rfl | (refine plain_agg ?_; simp only [go_sem, List.all_append, List.all_cons, List.all_nil, Bool.and_self]; done))) | ((first | refine JR_pt ?_ ?_ ?_ | refine JR_sl ?_ ?_ ?_); (focus first | (rw [rhoF_new0]; rfl) | (rw [rhoF_new]; rfl) | (rw [rhoF_old]; first | assumption | omega)); (focus first | assumption | omega | (simp only [List.length_append, List.length_cons, List.length_nil, List.length_replicate]; omega))) | (refine JR_plain' ?_ ?_ ?_; (focus first | rfl | (refine plain_agg ?_; simp only [go_sem, List.all_append, List.all_cons, List.all_nil, Bool.and_self]; done)); (focus (first | rfl | (simp only [Int.natCast_add, Int.natCast_one, Int.natCast_zero, Int.cast_ofNat_Int, Nat.add_zero]; done) | (simp only [Int.natCast_add, Int.natCast_one, Int.natCast_zero, Int.cast_ofNat_Int, Nat.add_zero]; rfl)))) | (refine JR_sl' ?_ ?_ ?_ ?_; (focus first | (rw [rhoF_new0]; rfl) | (rw [rhoF_new]; rfl) | (rw [rhoF_old]; first | assumption | omega)); (focus first | assumption | omega | (simp only [List.length_append, List.length_cons, List.length_nil, List.length_replicate]; omega)); (focus first | rfl | omega | (first | rfl | (simp only [Int.natCast_add, Int.natCast_one, Int.natCast_zero, Int.cast_ofNat_Int, Nat.add_zero]; done) | (simp only [Int.natCast_add, Int.natCast_one, Int.natCast_zero, Int.cast_ofNat_Int, Nat.add_zero]; rfl)))) | (refine JR_old ?_ (Nat.le_refl _) ?_; (focus assumption)))) ))
          · (refine sN (And.intro @hz (And.intro (@yieldA_at 2 71) (And.intro (@yieldA_at 2 115) (And.intro (@yieldA_at 2 162) (And.intro (@yieldA_at 3 62) (And.intro (@yieldA_at 3 147) (And.intro (@yieldA_at 3 202) (And.intro (@yieldA_at 5 118) (And.intro (@yieldA_at 8 207) (And.intro (@yieldA_at 14 213) (And.intro (@yieldA_at 18 217) (And.intro (@yieldA_at 23 222) (@yieldA_at 28 227))))))))))))) ?_)
            rw [hLq, List.append_assoc]
            (refine Drop_gc0 (by first | assumption | exact Nat.le_refl _ | first | assumption | omega | (simp only [List.length_append, List.length_cons, List.length_nil, List.length_replicate]; omega)) (by assumption) ?_; (focus (repeat (first | exact JR_nil | refine JR_J ?_ | (refine JR_plain ?_ ?_; (focus first | rfl | (refine plain_agg ?_; simp only [go_sem, List.all_append, List.all_cons, List.all_nil, Bool.and_self]; done))) | ((first | refine JR_pt ?_ ?_ ?_ | refine JR_sl ?_ ?_ ?_); (focus first | (rw [rhoF_new0]; rfl) | (rw [rhoF_new]; rfl) | (rw [rhoF_old]; first | assumption | omega)); (focus first | assumption | omega | (simp only [List.length_append, List.length_cons, List.length_nil, List.length_replicate]; omega))) | (refine JR_plain' ?_ ?_ ?_; (focus first | rfl | (refine plain_agg ?_; simp only [go_sem, List.all_append, List.all_cons, List.all_nil, Bool.and_self]; done)); (focus (first | rfl | (simp only [Int.natCast_add, Int.natCast_one, Int.natCast_zero, Int.cast_ofNat_Int, Nat.add_zero]; done) | (simp only [Int.natCast_add, Int.natCast_one, Int.natCast_zero, Int.cast_ofNat_Int, Nat.add_zero]; rfl)))) | (refine JR_sl' ?_ ?_ ?_ ?_; (focus first | (rw [rhoF_new0]; rfl) | (rw [rhoF_new]; rfl) | (rw [rhoF_old]; first | assumption | omega)); (focus first | assumption | omega | (simp only [List.length_append, List.length_cons, List.length_nil, List.length_replicate]; omega)); (focus first | rfl | omega | (first | rfl | (simp only [Int.natCast_add, Int.natCast_one, Int.natCast_zero, Int.cast_ofNat_Int, Nat.add_zero]; done) | (simp only [Int.natCast_add, Int.natCast_one, Int.natCast_zero, Int.cast_ofNat_Int, Nat.add_zero]; rfl)))) | (refine JR_old ?_ (Nat.le_refl _) ?_; (focus assumption)))) ))
  (repeat (first | ((first | (refine And.intro ?_ ?_; focus exact PLA) | ((first | with_reducible apply callB_i | with_reducible apply callK_intro | with_reducible apply callQ_i); (focus (first | assumption | ((first | with_reducible apply d2 | with_reducible apply kI | with_reducible apply kS) <;> (first | assumption | rfl | (simp (disch := omega) only [go_sem]; first | done | rfl) | omega | decide | (simp; done))))); (try exact WP_au)) | refine WA_seq (WA_region (id := 30) ?_) | refine WA_region (id := 30) ?_ | refine WA_seq (WA_region (id := 31) ?_) | refine WA_region (id := 31) ?_ | refine WA_seq (WA_region (id := 32) ?_) | refine WA_region (id := 32) ?_ | refine WA_seq (WA_region (id := 33) ?_) | refine WA_region (id := 33) ?_ | refine WA_exit ?_); try simp (maxSteps := 1000000) (disch := first | omega | rfl | decide | (simp only [List.length_cons, List.length_nil, List.length_append, LV] <;> omega)) only [go_sem, Nat.reduceAdd, Int.reduceAdd, Int.reduceSub, Int.reduceMul, Bool.not_true, Bool.not_false, bne_self_eq_false, yieldA_at 2 71, yieldA_at 2 115, yieldA_at 2 162, yieldA_at 3 62, yieldA_at 3 147, yieldA_at 3 202, yieldA_at 5 118, yieldA_at 8 207, yieldA_at 14 213, yieldA_at 18 217, yieldA_at 23 222, yieldA_at 28 227]) | refine WA_seq ?_ | refine WA_block ?_ | (refine WA_skip ?_; try simp only [go_sem]) | (refine WA_ret ?_; try simp only [go_sem]) | refine WA_ct rfl ?_ | refine WA_cf rfl ?_))
  rw [← hK2]
  refine WA_mid2 [(2, J), (17, J), (18, J), (19, J), (20, J), (21, J), (22, J), (23, J), (24, J), (25, J), (124, J), (125, J), (126, J), (127, J), (128, J), (129, J), (130, J), (131, J), (132, J), (133, J), (134, J), (135, J), (136, J), (137, J), (138, J), (139, J), (140, J), (141, J), (142, J), (143, J), (144, J), (145, J), (146, J), (147, J), (148, J), (149, J), (150, J), (151, J), (152, J), (153, J), (154, J), (155, J), (156, J), (157, J), (158, J), (159, J), (160, J), (161, J), (162, J), (163, J), (164, J), (165, J)] (K2) ?_ ?_ <;> (try simp only [patT_cons, patT_nil, patL_cons, patL_nil, list_set_zero, list_set_succ, blk_set_zero, blk_set_succ])
  · rcases hcq with hz | ⟨hz, hf, hm, ht⟩
    · (refine sN (And.intro @hz (And.intro @k21 (And.intro @k22 (And.intro @eqB_self (And.intro (@yieldA_at 2 71) (And.intro (@yieldA_at 2 115) (And.intro (@yieldA_at 2 162) (And.intro (@yieldA_at 3 62) (And.intro (@yieldA_at 3 147) (And.intro (@yieldA_at 3 202) (And.intro (@yieldA_at 5 118) (And.intro (@yieldA_at 8 207) (And.intro (@yieldA_at 14 213) (And.intro (@yieldA_at 18 217) (And.intro (@yieldA_at 23 222) (@yieldA_at 28 227)))))))))))))))) ?_)
      (exact sA0)
    · obtain ⟨p, rfl, hp, h0, h1⟩ := fieldB_nat hf
      have hm' : cm = cauF p f2 g2 := by rw [hm, Int.toNat_natCast]
      have hv : brS p cm 240 = 5 := by rw [hm', br_cauchy h0 h1 hp ht 240 (Nat.le_refl _)]
      have hbr : ∀ H, AC Tryd.prog 6 [.int .i64 (p : Int), .agg (Bs 16 cm).toArray] H (.tuple #[.int .i64 5, .int .i64 0]) H := fun H => by
        have h5 := brOI_ac (p : Int) cm H
        rw [Int.toNat_natCast, hp, cond_true, cond_true, hv] at h5
        exact h5
      (refine sW (And.intro @hz (And.intro @k21 (And.intro @k22 (And.intro @eqB_self (And.intro (@yieldA_at 2 71) (And.intro (@yieldA_at 2 115) (And.intro (@yieldA_at 2 162) (And.intro (@yieldA_at 3 62) (And.intro (@yieldA_at 3 147) (And.intro (@yieldA_at 3 202) (And.intro (@yieldA_at 5 118) (And.intro (@yieldA_at 8 207) (And.intro (@yieldA_at 14 213) (And.intro (@yieldA_at 18 217) (And.intro (@yieldA_at 23 222) (@yieldA_at 28 227)))))))))))))))) @hbr ?_)
      (exact sA0)
  (repeat (first | ((first | (refine And.intro ?_ ?_; focus exact PLA) | ((first | with_reducible apply callB_i | with_reducible apply callK_intro | with_reducible apply callQ_i); (focus (first | assumption | ((first | with_reducible apply d3 | with_reducible apply dI0 | with_reducible apply dS1) <;> (first | assumption | rfl | (simp (disch := omega) only [go_sem]; first | done | rfl) | omega | decide | (simp; done))))); (try exact WP_au)) | refine WA_seq (WA_region (id := 39) ?_) | refine WA_region (id := 39) ?_ | refine WA_seq (WA_region (id := 40) ?_) | refine WA_region (id := 40) ?_ | refine WA_seq (WA_region (id := 41) ?_) | refine WA_region (id := 41) ?_ | refine WA_exit ?_); try simp (maxSteps := 1000000) (disch := first | omega | rfl | decide | (simp only [List.length_cons, List.length_nil, List.length_append, LV] <;> omega)) only [go_sem, Nat.reduceAdd, Int.reduceAdd, Int.reduceSub, Int.reduceMul, Bool.not_true, Bool.not_false, bne_self_eq_false, yieldA_at 2 71, yieldA_at 2 115, yieldA_at 2 162, yieldA_at 3 62, yieldA_at 3 147, yieldA_at 3 202, yieldA_at 5 118, yieldA_at 8 207, yieldA_at 14 213, yieldA_at 18 217, yieldA_at 23 222, yieldA_at 28 227]) | refine WA_seq ?_ | refine WA_block ?_ | (refine WA_skip ?_; try simp only [go_sem]) | (refine WA_ret ?_; try simp only [go_sem]) | refine WA_ct rfl ?_ | refine WA_cf rfl ?_))
  rw [← hK3]
  (repeat (first | ((first | (refine And.intro ?_ ?_; focus exact PLA) | ((first | with_reducible apply callB_i | with_reducible apply callK_intro | with_reducible apply callQ_i); (focus (first | assumption | ((first | with_reducible apply d4 | with_reducible apply mtT_ac | with_reducible apply hpm) <;> (first | assumption | rfl | (simp (disch := omega) only [go_sem]; first | done | rfl) | omega | decide | (simp; done))))); (try exact WP_au)) | refine WA_seq (WA_region (id := 42) ?_) | refine WA_region (id := 42) ?_ | refine WA_seq (WA_region (id := 43) ?_) | refine WA_region (id := 43) ?_ | refine WA_seq (WA_region (id := 44) ?_) | refine WA_region (id := 44) ?_ | refine WA_exit ?_); try simp (maxSteps := 1000000) (disch := first | omega | rfl | decide | (simp only [List.length_cons, List.length_nil, List.length_append, LV] <;> omega)) only [go_sem, Nat.reduceAdd, Int.reduceAdd, Int.reduceSub, Int.reduceMul, Bool.not_true, Bool.not_false, bne_self_eq_false, yieldA_at 2 71, yieldA_at 2 115, yieldA_at 2 162, yieldA_at 3 62, yieldA_at 3 147, yieldA_at 3 202, yieldA_at 5 118, yieldA_at 8 207, yieldA_at 14 213, yieldA_at 18 217, yieldA_at 23 222, yieldA_at 28 227]) | refine WA_seq ?_ | refine WA_block ?_ | (refine WA_skip ?_; try simp only [go_sem]) | (refine WA_ret ?_; try simp only [go_sem]) | refine WA_ct rfl ?_ | refine WA_cf rfl ?_))
  rw [← hK4]
  (repeat (first | ((first | (refine And.intro ?_ ?_; focus exact PLA) | ((first | with_reducible apply callB_i | with_reducible apply callK_intro | with_reducible apply callQ_i); (focus (first | assumption | ((first | with_reducible apply d5 | with_reducible apply p5I | with_reducible apply p5S) <;> (first | assumption | rfl | (simp (disch := omega) only [go_sem]; first | done | rfl) | omega | decide | (simp; done))))); (try exact WP_au)) | refine WA_seq (WA_region (id := 45) ?_) | refine WA_region (id := 45) ?_ | refine WA_seq (WA_region (id := 46) ?_) | refine WA_region (id := 46) ?_ | refine WA_seq (WA_region (id := 47) ?_) | refine WA_region (id := 47) ?_ | refine WA_exit ?_); try simp (maxSteps := 1000000) (disch := first | omega | rfl | decide | (simp only [List.length_cons, List.length_nil, List.length_append, LV] <;> omega)) only [go_sem, Nat.reduceAdd, Int.reduceAdd, Int.reduceSub, Int.reduceMul, Bool.not_true, Bool.not_false, bne_self_eq_false, yieldA_at 2 71, yieldA_at 2 115, yieldA_at 2 162, yieldA_at 3 62, yieldA_at 3 147, yieldA_at 3 202, yieldA_at 5 118, yieldA_at 8 207, yieldA_at 14 213, yieldA_at 18 217, yieldA_at 23 222, yieldA_at 28 227]) | refine WA_seq ?_ | refine WA_block ?_ | (refine WA_skip ?_; try simp only [go_sem]) | (refine WA_ret ?_; try simp only [go_sem]) | refine WA_ct rfl ?_ | refine WA_cf rfl ?_))
  rw [← hK5]
  (refine sW (And.intro @y0 (And.intro @y1 (And.intro @y2 (And.intro @y3 (And.intro @k50 (And.intro @k51 (And.intro @eqB_self (And.intro (@yieldA_at 2 71) (And.intro (@yieldA_at 2 115) (And.intro (@yieldA_at 2 162) (And.intro (@yieldA_at 3 62) (And.intro (@yieldA_at 3 147) (And.intro (@yieldA_at 3 202) (And.intro (@yieldA_at 5 118) (And.intro (@yieldA_at 8 207) (And.intro (@yieldA_at 14 213) (And.intro (@yieldA_at 18 217) (And.intro (@yieldA_at 23 222) (@yieldA_at 28 227))))))))))))))))))) @mtS_ac ?_)
  rw [hA5]
  (exact sR0)

end Go.Proofs.YtalbdgkbinndlaaDoor
namespace Go.Proofs.YtalbdgkbinndlaaDoor
set_option linter.unusedSimpArgs false
set_option linter.unusedVariables false
set_option maxRecDepth 20000
set_option maxHeartbeats 1000000
open Go.Abs

theorem fnBranches_big {b n : Nat} (hn : 4096 < n) (hn2 : n ≤ 9223372036854775807) (h : List Blk) : AC Tryd.prog 3 [sl b 0 n 1] h (.bool true) h := by
  have hbg := big_long (b := b) hn hn2
  (refine AC_begin (fun _ _ => Tryd.call3 _ _) Tryd.func3 rfl Tryd.ntmps3 Tryd.results3 (fun hwf => ?_); simp only [List.length_cons, List.length_nil, Nat.reduceAdd, Nat.reduceSub, List.replicate, List.cons_append, List.nil_append])
  (refine sW (And.intro (@yieldA_at 2 71) (And.intro (@yieldA_at 2 115) (And.intro (@yieldA_at 2 162) (And.intro (@yieldA_at 3 62) (And.intro (@yieldA_at 3 147) (And.intro (@yieldA_at 3 202) (And.intro (@yieldA_at 5 118) (And.intro (@yieldA_at 8 207) (And.intro (@yieldA_at 14 213) (And.intro (@yieldA_at 18 217) (And.intro (@yieldA_at 23 222) (@yieldA_at 28 227)))))))))))) @hbg ?_)
  (exact sR0)

theorem fnBranches_args (us : List Value) (bl : List Blk) (h : ArgsU Tryd.prog 0 [22] us bl) : AC Tryd.prog 3 us bl (.bool true) bl := by
  rcases h.list (m := 1) (e := 5) (by kernel_rfl) (by kernel_rfl) with ⟨us1, rfl, h1⟩ | ⟨n1, f1, us1, bl1, rfl, rfl, hn1, h1⟩
  · obtain ⟨rfl, rfl⟩ := h1.done
    exact fnBranches_ok .nil
  · obtain ⟨rfl, rfl⟩ := h1.done
    rw [Nat.mul_one]
    rcases Nat.lt_or_ge 4096 n1 with hl | hl
    · exact fnBranches_big hl (by have : maxLen = 9223372036854775807 := rfl; omega) _
    · exact fnBranches_ok (Cv.sl (h := [⟨Bs n1 f1, false⟩]) (bc := 0) (f := f1) (rc := false) rfl hl)

set_option maxRecDepth 100000 in
set_option maxHeartbeats 1000000 in
theorem fnBranches_lifted (os : Os) (started : os.Started) (H : Type) (enc : TypeId × Value → H) :
    ReturnsInHanded {} Tryd.checked os 3 .any (fun w args => (Rows.fnBranchesSpec.pre enc Tryd.prog Tryd.f3 Rows.fnBranchesRow.domain false w args ∧ laidMetH Tryd.prog Rows.fnBranchesRow.laid w) ∧ sizedMet enc Tryd.prog Tryd.f3 (OpenSpec.ofChange Rows.fnBranchesSpec) false w args) (Rows.fnBranchesSpec.post enc Tryd.prog Tryd.f3 false true false false) :=
  frame_law_laid (C := Tryd.checked) (X := fun w => laidMetH Tryd.prog Rows.fnBranchesRow.laid w) (fun _ _ hh h => h.of_heap hh) (by kernel_rfl) started (by kernel_rfl) Tryd.func3 (by kernel_rfl)
    (ChangeSpec.witness_shaped (enc := enc) (C := Tryd.checked) (os := os) (X := fun w _ => laidMetH Tryd.prog Rows.fnBranchesRow.laid w) false (World.laidAll Tryd.prog os Rows.fnBranchesRow.laid) #[.slice none 0 0] 8 (World.laidAll_os _ _ _)
      (World.shaped_of_ZipB (by kernel_rfl) (by kernel_rfl)) (by kernel_rfl) (by kernel_rfl) (by kernel_rfl)
      (by rw [MakeChecks.laidMetH_plain _ _ _ (by kernel_rfl)]; exact laidMet_laidAll _ (by kernel_rfl) (by kernel_rfl)))
    rfl (fun ds h => by rw [Tryd.params3] at h; match ds, h with | [_], _ => rfl) (fun W h _ => doorOk.mk h trivial trivial trivial) (by rfl) Tryd.underlying4 (by rw [Tryd.params3]; kernel_rfl)
    (by rw [Tryd.params3]; exact fnBranches_args)

theorem fnBranches_row : Rows.FnBranchesSaid :=
  OpenClaim.holds_of_wide 3 Tryd.f3 rfl rfl rfl rfl rfl rfl rfl ⟨rfl, rfl, rfl, rfl, rfl⟩ rfl rfl rfl rfl rfl (by kernel_rfl) Tryd.func3 (by kernel_rfl)
    (of_decide_eq_true (by kernel_rfl)) (by unfold Func.isWrapper; first | (rw [if_pos (by decide +kernel)]; kernel_rfl) | (rw [if_neg (by decide +kernel)]; exact ⟨rfl, rfl⟩))
    (fun os started H enc _ => fnBranches_lifted os started H enc)

/-- ████ THE STATEMENT ████ -/
theorem fnBranches : Rows.FnBranchesCardSaid :=
  Claim7.holds_tied_plain_at .later [] [.data, .pinned] true (true, "aa10ee9af0b51442a97a269ef4ca3afbddbdad1e8ff8a19dc5b7952330096561") false fnBranches_row (fun _ h => by cases h) (by kernel_rfl) (fun _ h => by cases h) fnBranches_row_tie rfl ⟨rfl, rfl⟩ (by kernel_rfl) rfl
    (fun f fn hf hfn => by
      obtain rfl : f = 3 := Option.some.inj ((show Tryd.prog.funcNamed Tryd.f3.name = some 3 by kernel_rfl).symm.trans hf) |>.symm
      obtain rfl : fn = Tryd.f3 := (Option.some.inj (Tryd.func3.symm.trans hfn)).symm
      exact ⟨by kernel_rfl, fun j t ht => by
        rw [Tryd.params3] at ht
        have hm := Array.mem_of_getElem? ht
        have hall : (Tryd.f3.params.toList.all fun u => !Tryd.prog.wantsStandIn u) = true := by kernel_rfl
        rw [Tryd.params3] at hall
        have h2 := List.all_eq_true.1 hall t (by simpa using hm)
        exact (show Tryd.prog.wantsStandIn t = false by simpa using h2)⟩)
    (by kernel_rfl)
#print axioms fnBranches
end Go.Proofs.YtalbdgkbinndlaaDoor
