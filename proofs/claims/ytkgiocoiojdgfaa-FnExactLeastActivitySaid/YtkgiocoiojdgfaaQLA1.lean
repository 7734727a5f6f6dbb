/- A part of the proof of LeastActivity. -/
import Derived.Test.YtkgiocoiojdgfaaQLA0
/- Patterns: sums of signed counts are counts of columns. Plain. -/
namespace Go.Proofs.Ytkgiocoiojdgfaa
set_option linter.unusedSimpArgs false
set_option linter.unusedVariables false
set_option maxRecDepth 20000
set_option maxHeartbeats 1000000
open Go.Abs

section
variable {m : Nat} (h0 : 256 ≤ m) (h1 : m < 512) (hf : fieldB m = true)
theorem gstep_zero {L j c : Nat} {S : RkSt} (hP : Pm L S.s) (hr : S.r ≤ L) (hz : ∀ p, S.r ≤ p → p < L → S.E (S.s p) c = 0) : ∀ p, (gstep m L j S).r ≤ p → p < L → (gstep m L j S).E ((gstep m L j S).s p) c = 0 := by
  by_cases hp : S.r + gpC L S.E S.s S.r j = L
  · rw [gstep_no hp]; exact hz
  · have hle := gp_le (E := S.E) (s := S.s) (j := j) hr
    rw [gstep_yes hp]
    have hpl : S.r + gpC L S.E S.s S.r j < L := by omega
    have hrp : S.r ≤ S.r + gpC L S.E S.s S.r j := Nat.le_add_right _ _
    generalize S.r + gpC L S.E S.s S.r j = p0 at *
    obtain ⟨E, s, r⟩ := S
    simp only [] at hP hr hp hpl hrp hz ⊢
    have hrL : r < L := by omega
    have hPs := Pm_sw hP hpl hrL
    have hzs : ∀ p, r ≤ p → p < L → E (swS s p0 r p) c = 0 := fun p h1' h2' => by
      rw [swS_eq]
      exact hz _ (by split; omega; split <;> omega) (by split; omega; split <;> omega)
    obtain ⟨_, g2, _⟩ := elE_at (m := m) (j := j) (v := inv m (E (s p0) j)) (E := E) hPs hrL (L - (r + 1)) (by omega)
    intro p hp1 hp2
    have := g2 (p - (r + 1)) (by omega)
    rw [show r + 1 + (p - (r + 1)) = p by omega] at this
    rw [this]
    show E (swS s p0 r p) c ^^^ tm m _ (E (swS s p0 r r) c) = 0
    rw [hzs p (by omega) hp2, hzs r (Nat.le_refl _) hrL, tm_zeroR, UInt8.xor_zero]
/-- Behind the rank so far, the rows are 0 in the columns so far. -/
def ZeroB (L C j : Nat) (S : RkSt) : Prop := ∀ c, c < j → C.testBit c = true → ∀ p, S.r ≤ p → p < L → S.E (S.s p) c = 0
/-- The free columns among the last k. -/
def frS (m L C : Nat) (E : Nat → Nat → UInt8) : Nat → Nat
  | 0 => 0
  | k + 1 => frS m L C E k + (if C.testBit (3 - k) = true ∧ (rkS m L C E (3 - k)).r + gpC L (rkS m L C E (3 - k)).E (rkS m L C E (3 - k)).s (rkS m L C E (3 - k)).r (3 - k) = L then 1 else 0)
include h0 h1 hf in
theorem rkS_zero {L C : Nat} (hL : L ≤ 4) (E : Nat → Nat → UInt8) : ∀ j, j ≤ 4 → ZeroB L C j (rkS m L C E j)
  | 0, _ => fun c hc => absurd hc (Nat.not_lt_zero c)
  | j + 1, hj => by
    have ih := rkS_zero (C := C) hL E j (by omega)
    obtain ⟨hP, hr⟩ := rkS_inv m L C E j
    intro c hc hC p hp1 hp2
    cases hb : C.testBit j
    · rw [rkS_f hb] at hp1 ⊢
      by_cases e : c = j
      · rw [e, hb] at hC; cases hC
      · exact ih c (by omega) hC p hp1 hp2
    · rw [rkS_t hb] at hp1 ⊢
      by_cases e : c = j
      · subst e
        by_cases hp : (rkS m L C E c).r + gpC L (rkS m L C E c).E (rkS m L C E c).s (rkS m L C E c).r c = L
        · rw [gstep_no hp] at hp1 ⊢
          have := (gp_go (L := L) (E := (rkS m L C E c).E) (s := (rkS m L C E c).s) (r := (rkS m L C E c).r) (j := c) (i := p - (rkS m L C E c).r) (by omega)).2
          rw [show (rkS m L C E c).r + (p - (rkS m L C E c).r) = p by omega] at this
          simpa using this
        · have hrr : (gstep m L c (rkS m L C E c)).r = (rkS m L C E c).r + 1 := by rw [gstep_yes hp]
          rw [hrr] at hp1
          exact (pivot_one h0 h1 hf hP hr hL (by omega) hp fun _ => 0).2 p hp1 hp2
      · exact gstep_zero hP hr (fun q h1' h2' => ih c (by omega) hC q h1' h2') p hp1 hp2
theorem pow_succI (n : Nat) : (256 : Int) * 256 ^ n = 256 ^ (n + 1) := by rw [Int.pow_succ, Int.mul_comm]
include h0 h1 hf in
/-- How many columns are led to 0. -/
theorem ker_count {L C : Nat} (hL : L ≤ 4) (E : Nat → Nat → UInt8) : ∀ k v, k ≤ 4 → (∀ c, c < 4 - k → C.testBit c = false → v c = 0) → sT C k (wS m L (rkS m L C E (4 - k))) v = 256 ^ frS m L C E k
  | 0, v, _, hv => by
    show wS m L (rkS m L C E 4) v = 256 ^ 0
    have hz := rkS_zero h0 h1 hf (C := C) hL E 4 (Nat.le_refl _)
    have hk : KerS m L (rkS m L C E 4) v := fun p hp1 hp2 => by
      have key : ∀ c, c < 4 → tm m ((rkS m L C E 4).E ((rkS m L C E 4).s p) c) (v c) = 0 := fun c hc => by
        cases hb : C.testBit c
        · rw [hv c hc hb, tm_zeroR]
        · rw [hz c hc hb p hp1 hp2, tm_zero]
      rw [dt4, key 0 (by omega), key 1 (by omega), key 2 (by omega), key 3 (by omega)]; rfl
    unfold wS
    rw [if_pos hk]
    rfl
  | k + 1, v, hk, hv => by
    rw [show 4 - (k + 1) = 3 - k by omega]
    have hj4 : 4 - k = (3 - k) + 1 := by omega
    obtain ⟨hP, hr⟩ := rkS_inv m L C E (3 - k)
    cases hb : C.testBit (3 - k)
    · have e : frS m L C E (k + 1) = frS m L C E k := by rw [frS, if_neg fun h => by rw [hb] at h; cases h.1]; rfl
      rw [sT_f hb, e, ← rkS_f (E := E) (m := m) (L := L) hb, ← hj4]
      refine ker_count hL E k _ (by omega) fun c hc hC => ?_
      unfold upd
      split
      · rfl
      · exact hv c (by omega) hC
    · rw [sT_t hb]
      have hv' : ∀ b c, c < 4 - k → C.testBit c = false → upd v (3 - k) b c = 0 := fun b c hc hC => by
        unfold upd
        split
        · rename_i e; rw [e, hb] at hC; cases hC
        · exact hv c (by omega) hC
      by_cases hp : (rkS m L C E (3 - k)).r + gpC L (rkS m L C E (3 - k)).E (rkS m L C E (3 - k)).s (rkS m L C E (3 - k)).r (3 - k) = L
      · have e : frS m L C E (k + 1) = frS m L C E k + 1 := by rw [frS, if_pos ⟨hb, hp⟩]
        have es : rkS m L C E (4 - k) = rkS m L C E (3 - k) := by rw [hj4, rkS_t hb, gstep_no hp]
        rw [e, ← pow_succI, ← sumB_const, ← es]
        exact sumB_cong fun b => ker_count hL E k _ (by omega) (hv' b)
      · have e : frS m L C E (k + 1) = frS m L C E k := by rw [frS, if_neg fun h => hp h.2]; rfl
        rw [e, sT_swap k v (by omega) (by omega)]
        have es : (fun u => sumB fun b => wS m L (rkS m L C E (3 - k)) (upd u (3 - k) b)) = wS m L (rkS m L C E (4 - k)) := by
          funext u
          rw [(pivot_one h0 h1 hf hP hr hL (by omega) hp u).1, hj4, rkS_t hb]
        rw [es]
        refine ker_count hL E k v (by omega) fun c hc hC => ?_
        by_cases ec : c = 3 - k
        · rw [ec, hb] at hC; cases hC
        · exact hv c (by omega) hC
theorem fr_rank (m L C : Nat) (E : Nat → Nat → UInt8) : ∀ k, k ≤ 4 → frS m L C E k + (rkS m L C E 4).r + cn C (4 - k) = cn C 4 + (rkS m L C E (4 - k)).r
  | 0, _ => by show 0 + (rkS m L C E 4).r + cn C 4 = cn C 4 + (rkS m L C E 4).r; omega
  | k + 1, hk => by
    have ih := fr_rank m L C E k (by omega)
    have hj4 : 4 - k = (3 - k) + 1 := by omega
    rw [show 4 - (k + 1) = 3 - k by omega]
    cases hb : C.testBit (3 - k)
    · have e : frS m L C E (k + 1) = frS m L C E k := by rw [frS, if_neg fun h => by rw [hb] at h; cases h.1]; rfl
      rw [hj4, rkS_f hb, cn_f hb] at ih
      rw [e]; exact ih
    · rw [hj4, rkS_t hb, cn_t hb] at ih
      by_cases hp : (rkS m L C E (3 - k)).r + gpC L (rkS m L C E (3 - k)).E (rkS m L C E (3 - k)).s (rkS m L C E (3 - k)).r (3 - k) = L
      · have e : frS m L C E (k + 1) = frS m L C E k + 1 := by rw [frS, if_pos ⟨hb, hp⟩]
        rw [gstep_no hp] at ih
        rw [e]; omega
      · have e : frS m L C E (k + 1) = frS m L C E k := by rw [frS, if_neg fun h => hp h.2]; rfl
        have hrr : (gstep m L (3 - k) (rkS m L C E (3 - k))).r = (rkS m L C E (3 - k)).r + 1 := by rw [gstep_yes hp]
        rw [hrr] at ih
        rw [e]; omega
/-- The free places of a part of a matrix. -/
def freeN (m : Nat) (a : Nat → UInt8) (R C : Nat) : Nat := cn C 4 - (rkS m (cn R 4) C (E0 R a) 4).r
theorem free_is (m : Nat) (a : Nat → UInt8) (R C : Nat) : frS m (cn R 4) C (E0 R a) 4 = freeN m a R C := by
  have h := fr_rank m (cn R 4) C (E0 R a) 4 (Nat.le_refl _)
  have e1 : cn C (4 - 4) = 0 := rfl
  have e2 : (rkS m (cn R 4) C (E0 R a) (4 - 4)).r = 0 := rfl
  rw [e1, e2] at h
  unfold freeN; omega
theorem ker_E0 {a : Nat → UInt8} {R : Nat} (hR : R < 16) (C : Nat) (w : Nat → UInt8) : KerS m (cn R 4) (rkS m (cn R 4) C (E0 R a) 0) w ↔ ∀ i, i < 4 → R.testBit i = true → D m a w i = 0 := by
  have hc4 := cn_le R 4
  constructor
  · intro h i hi hb
    have hlt : cn R i < cn R 4 := by
      have h2 := cn_mono R (j := i + 1) 4 (by omega)
      rw [cn_t hb] at h2; omega
    have := h (cn R i) (Nat.zero_le _) hlt
    have e : E0 R a (cn R i) = fun t => a (i * 4 + t) := by funext t; unfold E0; rw [kp_cn R hR i hi hb]
    have h3 : dt m (E0 R a (cn R i)) w 4 = 0 := this
    rw [e] at h3
    exact h3
  · intro h p _ hp
    obtain ⟨k1, k2, _⟩ := kp_lt R hR p (by omega) hp
    exact h (kp R p) k1 k2
end

/-! ### Which places are other than 0 -/
/-- The places of a column other than 0, as a mask. -/
def supp (u : Nat → UInt8) : Nat := (if u 0 = 0 then 0 else 1) + (if u 1 = 0 then 0 else 2) + (if u 2 = 0 then 0 else 4) + (if u 3 = 0 then 0 else 8)
theorem supp_lt (u : Nat → UInt8) : supp u < 16 := by unfold supp; split <;> split <;> split <;> split <;> omega
theorem supp_bit (u : Nat → UInt8) {t : Nat} (ht : t < 4) : (supp u).testBit t = true ↔ u t ≠ 0 := by
  unfold supp
  rcases c4 ht with rfl | rfl | rfl | rfl <;> split <;> split <;> split <;> split <;> simp_all <;> decide
theorem mask_in : ∀ s, s < 16 → ∀ x, x < 16 → (s &&& x = s ↔ ∀ t, t < 4 → x.testBit t = false → s.testBit t = false) := by decide +kernel
theorem supp_in {u : Nat → UInt8} {x : Nat} (hx : x < 16) : supp u &&& x = supp u ↔ ∀ t, t < 4 → x.testBit t = false → u t = 0 := by
  rw [mask_in _ (supp_lt u) x hx]
  constructor
  · intro h t ht hb
    have := h t ht hb
    rcases Decidable.em (u t = 0) with e | e
    · exact e
    · rw [(supp_bit u ht).2 e] at this; cases this
  · intro h t ht hb
    cases hs : (supp u).testBit t with
    | false => rfl
    | true => exact absurd (h t ht hb) ((supp_bit u ht).1 hs)
theorem flip_bit : ∀ y, y < 16 → ∀ t, t < 4 → (15 ^^^ y).testBit t = !y.testBit t := by decide +kernel
theorem flip_lt : ∀ y, y < 16 → 15 ^^^ y < 16 := by decide +kernel
/-- A part's columns, counted among all. -/
theorem count_all {m : Nat} (h0 : 256 ≤ m) (h1 : m < 512) (hf : fieldB m = true) (a : Nat → UInt8) {x y : Nat} (hx : x < 16) (hy : y < 16) :
    (256 : Int) ^ freeN m a (15 ^^^ y) x = sT 15 4 (fun u => if supp u &&& x = supp u ∧ supp (D m a u) &&& y = supp (D m a u) then 1 else 0) fun _ => 0 := by
  rw [← free_is, ← ker_count h0 h1 hf (cn_le _ 4) (E0 (15 ^^^ y) a) 4 (fun _ => 0) (Nat.le_refl _) (fun c hc => absurd hc (by omega)), sT_all 4 _ (Nat.le_refl _)]
  refine sT_cong 4 _ (Nat.le_refl _) fun u _ _ => ?_
  have e1 : (∀ t, 4 - 4 ≤ t → t < 4 → x.testBit t = false → u t = 0) ↔ supp u &&& x = supp u := by
    rw [supp_in hx]
    exact ⟨fun h t ht => h t (Nat.zero_le _) ht, fun h t _ ht => h t ht⟩
  have e2 : KerS m (cn (15 ^^^ y) 4) (rkS m (cn (15 ^^^ y) 4) x (E0 (15 ^^^ y) a) (4 - 4)) u ↔ supp (D m a u) &&& y = supp (D m a u) := by
    rw [supp_in hy]
    refine (ker_E0 (flip_lt y hy) x u).trans ⟨fun h t ht hb => h t ht (by rw [flip_bit y hy t ht, hb]; rfl), fun h t ht hb => h t ht (by rw [flip_bit y hy t ht] at hb; simpa using hb)⟩
  by_cases g1 : supp u &&& x = supp u
  · rw [if_pos (e1.2 g1)]
    unfold wS
    by_cases g2 : supp (D m a u) &&& y = supp (D m a u)
    · rw [if_pos (e2.2 g2), if_pos ⟨g1, g2⟩]
    · rw [if_neg fun h => g2 (e2.1 h), if_neg fun h => g2 h.2]
  · rw [if_neg fun h => g1 (e1.1 h), if_neg fun h => g1 h.1]

/-! ### Signs -/
theorem sub_lt : ∀ y, y < 16 → ∀ q, q < 16 → q ^^^ y < 16 := by decide +kernel
def sgn (n : Nat) : Int := if cn n 4 % 2 = 0 then 1 else -1
theorem sign_x : ∀ s, s < 16 → ∀ a, a < 16 → sumI (fun x => if x &&& a = x ∧ s &&& x = s then sgn (a ^^^ x) else 0) 16 = if s = a then 1 else 0 := by decide +kernel
theorem sign_m : ∀ s, s < 16 → ∀ b, b < 16 → sumI (fun y => if y &&& b = y ∧ s &&& (b ^^^ y) = s then sgn y else 0) 16 = if s = b then 1 else 0 := by decide +kernel
/-- How many columns with just the places a become columns with just the places b. -/
def manyF (m : Nat) (a : Nat → UInt8) (x y : Nat) : Int := sT 15 4 (fun u => if supp u = x ∧ supp (D m a u) = y then 1 else 0) fun _ => 0
theorem many_nonneg (m : Nat) (a : Nat → UInt8) (x y : Nat) : 0 ≤ manyF m a x y := sT_nonneg (fun u => by split <;> decide) 4 _
section
variable {m : Nat} (h0 : 256 ≤ m) (h1 : m < 512) (hf : fieldB m = true)
include h0 h1 hf
theorem many_sum (a : Nat → UInt8) {p q : Nat} (hp : p < 16) (hq : q < 16) (cx cy : Nat → Int) (fy : Nat → Nat) (hfy : ∀ y, y < 16 → cy y ≠ 0 → fy y < 16)
    (hcx : ∀ s, s < 16 → sumI (fun x => if s &&& x = s then cx x else 0) 16 = if s = p then 1 else 0)
    (hcy : ∀ s, s < 16 → sumI (fun y => if s &&& fy y = s then cy y else 0) 16 = if s = q then 1 else 0) :
    sumI (fun x => sumI (fun y => cx x * cy y * (256 : Int) ^ freeN m a (15 ^^^ fy y) x) 16) 16 = manyF m a p q := by
  have e : ∀ x, x < 16 → ∀ y, y < 16 → cx x * cy y * (256 : Int) ^ freeN m a (15 ^^^ fy y) x = sT 15 4 (fun u => cx x * cy y * (if supp u &&& x = supp u ∧ supp (D m a u) &&& fy y = supp (D m a u) then 1 else 0)) fun _ => 0 := fun x hx y hy => by
    by_cases hz : cy y = 0
    · rw [hz, Int.mul_zero, Int.zero_mul, show (fun u : Nat → UInt8 => (0 : Int) * (if supp u &&& x = supp u ∧ supp (D m a u) &&& fy y = supp (D m a u) then 1 else 0)) = fun _ => 0 from funext fun u => Int.zero_mul _, sT_zero]
    · rw [count_all h0 h1 hf a hx (hfy y hy hz), sT_mul]
  rw [sumI_cong fun x hx => sumI_cong fun y hy => e x hx y hy, sumI_cong fun x _ => (sT_sum 15 4 (fun y u => cx x * cy y * (if supp u &&& x = supp u ∧ supp (D m a u) &&& fy y = supp (D m a u) then 1 else 0)) (fun _ => 0) 16).symm, ← sT_sum]
  unfold manyF
  congr 1
  funext u
  have e2 : ∀ x, sumI (fun y => cx x * cy y * (if supp u &&& x = supp u ∧ supp (D m a u) &&& fy y = supp (D m a u) then 1 else 0)) 16 = (if supp u &&& x = supp u then cx x else 0) * (if supp (D m a u) = q then 1 else 0) := fun x => by
    rw [← hcy _ (supp_lt _), ← sumI_mul]
    refine sumI_cong fun y _ => ?_
    by_cases g1 : supp u &&& x = supp u
    · by_cases g2 : supp (D m a u) &&& fy y = supp (D m a u)
      · rw [if_pos ⟨g1, g2⟩, if_pos g1, if_pos g2, Int.mul_one]
      · rw [if_neg fun h => g2 h.2, if_neg g2, Int.mul_zero, Int.mul_zero]
    · rw [if_neg fun h => g1 h.1, if_neg g1, Int.mul_zero, Int.zero_mul]
  rw [sumI_cong fun x _ => e2 x]
  rw [sumI_cong (g := fun x => (if supp (D m a u) = q then 1 else 0) * (if supp u &&& x = supp u then cx x else 0)) fun x _ => Int.mul_comm _ _, sumI_mul, hcx _ (supp_lt u)]
  by_cases g1 : supp u = p
  · by_cases g2 : supp (D m a u) = q
    · rw [if_pos g1, if_pos g2, if_pos ⟨g1, g2⟩]; rfl
    · rw [if_neg g2, if_neg (show ¬ (supp u = p ∧ supp (D m a u) = q) from fun h => g2 h.2)]; exact Int.zero_mul _
  · rw [if_neg g1, if_neg (show ¬ (supp u = p ∧ supp (D m a u) = q) from fun h => g1 h.1)]; exact Int.mul_zero _
/-- The sum as the one side takes it. -/
theorem many_S (a : Nat → UInt8) {p q : Nat} (hp : p < 16) (hq : q < 16) :
    sumI (fun x => sumI (fun y => (if x &&& p = x then sgn (p ^^^ x) else 0) * (if y &&& q = y then sgn (q ^^^ y) else 0) * (256 : Int) ^ freeN m a (15 ^^^ y) x) 16) 16 = manyF m a p q := by
  refine many_sum h0 h1 hf a hp hq (fun x => if x &&& p = x then sgn (p ^^^ x) else 0) (fun y => if y &&& q = y then sgn (q ^^^ y) else 0) (fun y => y) (fun y hy _ => hy) (fun s hs => ?_) fun s hs => ?_
  · rw [← sign_x s hs p hp]
    refine sumI_cong fun x _ => ?_
    by_cases g1 : s &&& x = s <;> by_cases g2 : x &&& p = x <;> simp [g1, g2]
  · rw [← sign_x s hs q hq]
    refine sumI_cong fun x _ => ?_
    by_cases g1 : s &&& x = s <;> by_cases g2 : x &&& q = x <;> simp [g1, g2]
/-- The sum as the other side takes it. -/
theorem many_I (a : Nat → UInt8) {p q : Nat} (hp : p < 16) (hq : q < 16) :
    sumI (fun x => sumI (fun y => (if x &&& p = x then sgn (p ^^^ x) else 0) * (if y &&& q = y then sgn y else 0) * (256 : Int) ^ freeN m a (15 ^^^ (q ^^^ y)) x) 16) 16 = manyF m a p q := by
  refine many_sum h0 h1 hf a hp hq (fun x => if x &&& p = x then sgn (p ^^^ x) else 0) (fun y => if y &&& q = y then sgn y else 0) (fun y => q ^^^ y) (fun y hy _ => sub_lt y hy q hq) (fun s hs => ?_) fun s hs => ?_
  · rw [← sign_x s hs p hp]
    refine sumI_cong fun x _ => ?_
    by_cases g1 : s &&& x = s <;> by_cases g2 : x &&& p = x <;> simp [g1, g2]
  · rw [← sign_m s hs q hq]
    refine sumI_cong fun x _ => ?_
    by_cases g1 : s &&& (q ^^^ x) = s <;> by_cases g2 : x &&& q = x <;> simp [g1, g2]
end
end Go.Proofs.Ytkgiocoiojdgfaa
/- Ranks of rows: the reference's second way. -/
namespace Go.Proofs.Ytkgiocoiojdgfaa
set_option linter.unusedSimpArgs false
set_option linter.unusedVariables false
set_option maxRecDepth 20000
set_option maxHeartbeats 1000000
open Go.Abs

section
variable {m : Nat} (h0 : 256 ≤ m) (h1 : m < 512) (hf : fieldB m = true)
include h0 h1 hf
theorem rkI_zero {L : Nat} (hL : L ≤ 4) (E : Nat → Nat → UInt8) : ∀ j, j ≤ 4 → ∀ c, c < j → ∀ p, (rkI m L E j).r ≤ p → p < L → (rkI m L E j).E ((rkI m L E j).s p) c = 0
  | 0, _ => fun c hc => absurd hc (Nat.not_lt_zero c)
  | j + 1, hj => by
    have ih := rkI_zero hL E j (by omega)
    obtain ⟨hP, hr⟩ := rkI_inv m L E j
    intro c hc p hp1 hp2
    have hst : rkI m L E (j + 1) = gstep m L j (rkI m L E j) := rfl
    rw [hst] at hp1 ⊢
    by_cases e : c = j
    · subst e
      by_cases hp : (rkI m L E c).r + gpC L (rkI m L E c).E (rkI m L E c).s (rkI m L E c).r c = L
      · rw [gstep_no hp] at hp1 ⊢
        have := (gp_go (L := L) (E := (rkI m L E c).E) (s := (rkI m L E c).s) (r := (rkI m L E c).r) (j := c) (i := p - (rkI m L E c).r) (by omega)).2
        rw [show (rkI m L E c).r + (p - (rkI m L E c).r) = p by omega] at this
        simpa using this
      · have hrr : (gstep m L c (rkI m L E c)).r = (rkI m L E c).r + 1 := by rw [gstep_yes hp]
        rw [hrr] at hp1
        exact (pivot_one h0 h1 hf hP hr hL (by omega) hp fun _ => 0).2 p hp1 hp2
    · exact gstep_zero hP hr (fun q h1' h2' => ih c (by omega) q h1' h2') p hp1 hp2
end
theorem pre_keep {j : Nat} {m : Nat} {f : UInt8} {x y : Nat → UInt8} (h : ∀ c, c < j → y c = 0) : pre j (rowN m f x y) x = x := by
  funext c
  unfold pre
  by_cases hc : c < j
  · rw [if_pos hc]
    show x c ^^^ tm m f (y c) = x c
    rw [h c hc, tm_zeroR, UInt8.xor_zero]
  · rw [if_neg hc]
theorem rankL_ac {m : Nat} (h0 : 256 ≤ m) (h1 : m < 512) (hf : fieldB m = true) {L nc : Nat} (hL : L ≤ 4) (hnc : nc ≤ 4) (E1 : Nat → Nat → UInt8) (h : List Blk) (A : Blk) :
    AC Try.prog 224 [.int .i64 m, sl (h.length + (L + 1)) 0 L 1] (rowsH h (Rw nc E1) L ++ [A, ⟨Vs L (spF h.length nc fun j => j), true⟩]) (.int .i64 (((rkI m L E1 (if L = 0 then 0 else nc)).r : Nat) : Int))
      (rowsH h (Rw nc (rkI m L E1 (if L = 0 then 0 else nc)).E) L ++ [A, ⟨Vs L (spF h.length nc (rkI m L E1 (if L = 0 then 0 else nc)).s), true⟩]) := by
  have hll := fun E => rowsH_len h (Rw nc E) L
  have hlen : ∀ E s, h.length + L + 2 ≤ (rowsH h (Rw nc E) L ++ [A, ⟨Vs L (spF h.length nc s), true⟩]).length := fun E s => by rw [List.length_append, rowsH_len]; simp
  rcases Nat.eq_zero_or_pos L with rfl | hL0
  · rw [if_pos rfl, show rkI m 0 E1 0 = ⟨E1, fun j => j, 0⟩ from rfl]
    (refine AC_begin (fun _ _ => Try.call224 _ _) Try.func224 rfl Try.ntmps224 Try.results224 (fun hwf => ?_); simp only [List.length_cons, List.length_nil, Nat.reduceAdd, Nat.reduceSub, List.replicate, List.cons_append, List.nil_append])
    (repeat (first | ((first | (refine And.intro ?_ ?_; focus (first | exact plain_agg (by simp only [go_sem]) | exact plain_two (by first | exact plain_agg (by simp only [go_sem]) | rfl) rfl | rfl)) | refine WA_seq (WA_region ?_) | refine WA_region ?_ | refine WA_exit ?_); try simp (maxSteps := 1000000) (disch := first | omega | rfl | decide | (simp only [List.length_cons, List.length_nil, List.length_append, Bs_length, Is_length, Vs_length, Bl_length, Il_length] <;> omega)) only [go_sem, Nat.reduceAdd, Int.reduceAdd, Int.reduceSub, Int.reduceMul, Bool.not_true, Bool.not_false, yieldA_at 3 17, yieldA_at 4 32]) | refine WA_seq ?_ | refine WA_block ?_ | (refine WA_skip ?_; try simp only [go_sem]) | (refine WA_ret ?_; try simp only [go_sem]) | refine WA_ct rfl ?_ | refine WA_cf rfl ?_))
    refine WA_forH (fun k => [(5, .int .i64 0), (6, .int .i64 k), (7, J), (8, J), (9, J), (10, J), (11, J), (12, J), (13, J), (14, J), (15, J), (16, J), (17, J), (18, J), (19, J), (20, J), (21, J), (22, J), (23, J), (24, J), (25, J), (26, J), (27, J), (28, J), (29, J), (30, J), (31, J), (32, J), (33, J), (34, J), (35, J), (36, J), (37, J), (38, J), (39, J), (40, J), (41, J), (42, J), (43, J), (44, J), (45, J), (46, J), (47, J), (48, J), (49, J), (50, J), (51, J), (52, J), (53, J), (54, J), (55, J), (56, J), (57, J), (58, J), (59, J), (60, J), (61, J), (62, J), (63, J), (64, J), (65, J), (66, J), (67, J), (68, J), (69, J), (70, J), (71, J), (72, J), (73, J), (74, J), (75, J), (76, J), (77, J), (78, J), (79, J), (80, J), (81, J), (82, J), (83, J), (84, J), (85, J), (86, J), (87, J), (88, J), (89, J), (90, J), (91, J), (92, J), (93, J), (94, J), (95, J), (96, J), (97, J), (98, J), (99, J), (100, J), (101, J), (102, J), (103, J), (104, J), (105, J), (106, J), (107, J), (108, J), (109, J), (110, J), (111, J), (112, J), (113, J), (114, J)]) (fun k => rowsH h (Rw nc E1) 0 ++ [A, ⟨Vs 0 (spF h.length nc fun j => j), true⟩]) (0) ?_ ?_ ?_ <;> (try simp only [patT_cons, patT_nil, patL_cons, patL_nil, list_set_zero, list_set_succ, blk_set_zero, blk_set_succ])
    · (refine Drop_slots (by first | exact Nat.le_refl _ | simp) ?_; focus ((try simp only [JL_same, JL_J, JL_nil, Int.reduceAdd, Nat.sub_sub, Int.natCast_add, Int.natCast_one, Int.natCast_zero, Int.cast_ofNat_Int, Nat.add_zero, Bool.false_eq_true, if_false, if_true]); (try exact JL_refl _)))
    · intro k hk
      omega
    · (repeat (first | ((first | (refine And.intro ?_ ?_; focus (first | exact plain_agg (by simp only [go_sem]) | exact plain_two (by first | exact plain_agg (by simp only [go_sem]) | rfl) rfl | rfl)) | refine WA_seq (WA_region ?_) | refine WA_region ?_ | refine WA_exit ?_); try simp (maxSteps := 1000000) (disch := first | omega | rfl | decide | (simp only [List.length_cons, List.length_nil, List.length_append, Bs_length, Is_length, Vs_length, Bl_length, Il_length] <;> omega)) only [go_sem, Nat.reduceAdd, Int.reduceAdd, Int.reduceSub, Int.reduceMul, Bool.not_true, Bool.not_false, show decide ((0 : Nat) < 0) = false from rfl, show decide ((0 : Int) < 0) = false from rfl, yieldA_at 3 17, yieldA_at 4 32]) | refine WA_seq ?_ | refine WA_block ?_ | (refine WA_skip ?_; try simp only [go_sem]) | (refine WA_ret ?_; try simp only [go_sem]) | refine WA_ct rfl ?_ | refine WA_cf rfl ?_))
      ((first | refine ret_none (by first | exact .inr rfl | exact .inl rfl) ?_ | refine ret_same (by first | exact .inr rfl | exact .inl rfl) ?_ (by first | rfl | exact plain_agg (by simp only [go_sem]) | exact plain_two (by first | exact plain_agg (by simp only [go_sem]) | rfl) (by first | exact plain_agg (by simp only [go_sem]) | rfl)) | refine ret_full (by first | exact .inr rfl | exact .inl rfl) (by simp) ?_); simp (maxSteps := 1000000) (disch := first | omega | rfl | decide | (simp only [List.length_cons, List.length_nil, List.length_append, Bs_length, Is_length, Vs_length, Bl_length, Il_length] <;> omega)) only [go_sem, Nat.reduceAdd, Int.reduceAdd, Int.reduceSub, Int.reduceMul, Bool.not_true, Bool.not_false]; try rfl)
  · rw [if_neg (by omega)]
    have hLp : decide (0 < L) = true := decide_eq_true hL0
    (refine AC_begin (fun _ _ => Try.call224 _ _) Try.func224 rfl Try.ntmps224 Try.results224 (fun hwf => ?_); simp only [List.length_cons, List.length_nil, Nat.reduceAdd, Nat.reduceSub, List.replicate, List.cons_append, List.nil_append])
    (repeat (first | ((first | (refine And.intro ?_ ?_; focus (first | exact plain_agg (by simp only [go_sem]) | exact plain_two (by first | exact plain_agg (by simp only [go_sem]) | rfl) rfl | rfl)) | refine WA_seq (WA_region ?_) | refine WA_region ?_ | refine WA_exit ?_); try simp (maxSteps := 1000000) (disch := first | omega | rfl | decide | (simp only [List.length_cons, List.length_nil, List.length_append, Bs_length, Is_length, Vs_length, Bl_length, Il_length] <;> omega)) only [go_sem, Nat.reduceAdd, Int.reduceAdd, Int.reduceSub, Int.reduceMul, Bool.not_true, Bool.not_false, yieldA_at 3 17, yieldA_at 4 32]) | refine WA_seq ?_ | refine WA_block ?_ | (refine WA_skip ?_; try simp only [go_sem]) | (refine WA_ret ?_; try simp only [go_sem]) | refine WA_ct rfl ?_ | refine WA_cf rfl ?_))
    refine WA_forH (fun k => [(1, sl (h.length + (L + 1)) 0 L 1), (5, .int .i64 (((rkI m L E1 k).r : Nat) : Int)), (6, .int .i64 k), (7, J), (8, J), (9, J), (10, J), (11, J), (12, J), (13, J), (14, J), (15, J), (16, J), (17, J), (18, J), (19, J), (20, J), (21, J), (22, J), (23, J), (24, J), (25, J), (26, J), (27, J), (28, J), (29, J), (30, J), (31, J), (32, J), (33, J), (34, J), (35, J), (36, J), (37, J), (38, J), (39, J), (40, J), (41, J), (42, J), (43, J), (44, J), (45, J), (46, J), (47, J), (48, J), (49, J), (50, J), (51, J), (52, J), (53, J), (54, J), (55, J), (56, J), (57, J), (58, J), (59, J), (60, J), (61, J), (62, J), (63, J), (64, J), (65, J), (66, J), (67, J), (68, J), (69, J), (70, J), (71, J), (72, J), (73, J), (74, J), (75, J), (76, J), (77, J), (78, J), (79, J), (80, J), (81, J), (82, J), (83, J), (84, J), (85, J), (86, J), (87, J), (88, J), (89, J), (90, J), (91, J), (92, J), (93, J), (94, J), (95, J), (96, J), (97, J), (98, J), (99, J), (100, J), (101, J), (102, J), (103, J), (104, J), (105, J), (106, J), (107, J), (108, J), (109, J), (110, J), (111, J), (112, J), (113, J), (114, J)]) (fun k => rowsH h (Rw nc (rkI m L E1 k).E) L ++ [A, ⟨Vs L (spF h.length nc (rkI m L E1 k).s), true⟩]) (nc) ?_ ?_ ?_ <;> (try simp only [patT_cons, patT_nil, patL_cons, patL_nil, list_set_zero, list_set_succ, blk_set_zero, blk_set_succ])
    · rw [show rkI m L E1 0 = ⟨E1, fun j => j, 0⟩ from rfl]
      (refine Drop_slots (by first | exact Nat.le_refl _ | (simp only [List.length_append, rowsH_len, List.length_cons, List.length_nil]; omega) | (simp only [List.length_append, rowsH_len, List.length_cons, List.length_nil, Nat.le_refl]; done)) ?_; focus ((try simp only [JL_same, JL_J, JL_nil, Int.reduceAdd, Nat.sub_sub, Int.natCast_add, Int.natCast_one, Int.natCast_zero, Int.cast_ofNat_Int, Nat.add_zero, Bool.false_eq_true, if_false, if_true]); (try exact JL_refl _)))
    · intro j hj
      obtain ⟨hP, hr⟩ := rkI_inv m L E1 j
      have hzz := rkI_zero h0 h1 hf hL E1 j (by omega)
      have hst : rkI m L E1 (j + 1) = gstep m L j (rkI m L E1 j) := rfl
      rw [hst]
      clear hst
      generalize rkI m L E1 j = S at *
      obtain ⟨E, s, r⟩ := S
      simp only [] at hP hr hzz ⊢
      have hgl := gp_le (E := E) (s := s) (j := j) hr
      have hs0 := hP.lt 0 hL0
      (repeat (first | ((first | (refine And.intro ?_ ?_; focus (first | exact plain_agg (by simp only [go_sem]) | exact plain_two (by first | exact plain_agg (by simp only [go_sem]) | rfl) rfl | rfl)) | refine WA_seq (WA_region ?_) | refine WA_region ?_ | refine WA_exit ?_); try simp (maxSteps := 1000000) (disch := first | omega | rfl | decide | (simp only [List.length_cons, List.length_nil, List.length_append, Bs_length, Is_length, Vs_length, Bl_length, Il_length] <;> omega)) only [go_sem, Nat.reduceAdd, Int.reduceAdd, Int.reduceSub, Int.reduceMul, Bool.not_true, Bool.not_false, hLp, look_tail1, spF_at, row_look, yieldA_at 3 17, yieldA_at 4 32]) | refine WA_seq ?_ | refine WA_block ?_ | (refine WA_skip ?_; try simp only [go_sem]) | (refine WA_ret ?_; try simp only [go_sem]) | refine WA_ct rfl ?_ | refine WA_cf rfl ?_))
      refine WA_forP (fun k => [(7, .int .i64 ((r + k : Nat) : Int)), (28, J), (29, J), (30, J), (31, J), (32, J), (33, J), (34, J), (35, J), (36, J), (37, J), (38, J), (39, J), (40, J), (41, J), (42, J), (43, J)]) (fun k => []) (gpC L E s r j) ?_ ?_ ?_ <;> (try simp only [patT_cons, patT_nil, patL_cons, patL_nil, list_set_zero, list_set_succ, blk_set_zero, blk_set_succ])
      · (refine Drop_slots (by first | exact Nat.le_refl _ | (simp only [List.length_append, rowsH_len, List.length_cons, List.length_nil]; omega) | (simp only [List.length_append, rowsH_len, List.length_cons, List.length_nil, Nat.le_refl]; done)) ?_; focus ((try simp only [JL_same, JL_J, JL_nil, Int.reduceAdd, Nat.sub_sub, Int.natCast_add, Int.natCast_one, Int.natCast_zero, Int.cast_ofNat_Int, Nat.add_zero, Bool.false_eq_true, if_false, if_true]); (try exact JL_refl _)))
      · intro i hi
        obtain ⟨g1, g2⟩ := gp_go hi
        have hs := hP.lt (r + i) g1
        (repeat (first | ((first | (refine And.intro ?_ ?_; focus (first | exact plain_agg (by simp only [go_sem]) | exact plain_two (by first | exact plain_agg (by simp only [go_sem]) | rfl) rfl | rfl)) | refine WA_seq (WA_region ?_) | refine WA_region ?_ | refine WA_exit ?_); try simp (maxSteps := 1000000) (disch := first | omega | rfl | decide | (simp only [List.length_cons, List.length_nil, List.length_append, Bs_length, Is_length, Vs_length, Bl_length, Il_length] <;> omega)) only [go_sem, Nat.reduceAdd, Int.reduceAdd, Int.reduceSub, Int.reduceMul, Bool.not_true, Bool.not_false, decide_eq_true g1, look_tail1, spF_at, row_look, g2, yieldA_at 3 17, yieldA_at 4 32]) | refine WA_seq ?_ | refine WA_block ?_ | (refine WA_skip ?_; try simp only [go_sem]) | (refine WA_ret ?_; try simp only [go_sem]) | refine WA_ct rfl ?_ | refine WA_cf rfl ?_))
        (refine Drop_slots (by first | exact Nat.le_refl _ | (simp only [List.length_append, rowsH_len, List.length_cons, List.length_nil]; omega) | (simp only [List.length_append, rowsH_len, List.length_cons, List.length_nil, Nat.le_refl]; done)) ?_; focus ((try simp only [JL_same, JL_J, JL_nil, Int.reduceAdd, Nat.sub_sub, Int.natCast_add, Int.natCast_one, Int.natCast_zero, Int.cast_ofNat_Int, Nat.add_zero, Bool.false_eq_true, if_false, if_true, Nat.add_assoc]); (try exact JL_refl _)))
      · by_cases hpv : r + gpC L E s r j = L
        · have hg := gstep_no (m := m) (L := L) (j := j) (S := ⟨E, s, r⟩) hpv
          rw [hg]
          (repeat (first | ((first | (refine And.intro ?_ ?_; focus (first | exact plain_agg (by simp only [go_sem]) | exact plain_two (by first | exact plain_agg (by simp only [go_sem]) | rfl) rfl | rfl)) | refine WA_seq (WA_region ?_) | refine WA_region ?_ | refine WA_exit ?_); try simp (maxSteps := 1000000) (disch := first | omega | rfl | decide | (simp only [List.length_cons, List.length_nil, List.length_append, Bs_length, Is_length, Vs_length, Bl_length, Il_length] <;> omega)) only [go_sem, Nat.reduceAdd, Int.reduceAdd, Int.reduceSub, Int.reduceMul, Bool.not_true, Bool.not_false, hpv, show decide (L < L) = false from decide_eq_false (Nat.lt_irrefl _), show decide (L ≤ L) = true from decide_eq_true (Nat.le_refl _), yieldA_at 3 17, yieldA_at 4 32]) | refine WA_seq ?_ | refine WA_block ?_ | (refine WA_skip ?_; try simp only [go_sem]) | (refine WA_ret ?_; try simp only [go_sem]) | refine WA_ct rfl ?_ | refine WA_cf rfl ?_))
          (refine Drop_slots (by first | exact Nat.le_refl _ | (simp only [List.length_append, rowsH_len, List.length_cons, List.length_nil]; omega) | (simp only [List.length_append, rowsH_len, List.length_cons, List.length_nil, Nat.le_refl]; done)) ?_; focus ((try simp only [JL_same, JL_J, JL_nil, Int.reduceAdd, Nat.sub_sub, Int.natCast_add, Int.natCast_one, Int.natCast_zero, Int.cast_ofNat_Int, Nat.add_zero, Bool.false_eq_true, if_false, if_true]); (try exact JL_refl _)))
        · have hg := gstep_yes (m := m) (L := L) (j := j) (S := ⟨E, s, r⟩) hpv
          simp only [] at hg
          have hge := gp_end (E := E) (s := s) (j := j) hr hL hpv
          rw [hg]
          simp only []
          clear hg
          have hpl : r + gpC L E s r j < L := by omega
          have hrp : r ≤ r + gpC L E s r j := Nat.le_add_right _ _
          generalize r + gpC L E s r j = p at *
          have hs := hP.lt p hpl
          have hr4 : r < L := by omega
          have hsr4 := hP.lt r hr4
          have hPs := Pm_sw hP hpl hr4
          have hzp : ∀ c, c < j → E (s p) c = 0 := fun c hc => hzz c hc p hrp hpl
          (repeat (first | ((first | (refine And.intro ?_ ?_; focus (first | exact plain_agg (by simp only [go_sem]) | exact plain_two (by first | exact plain_agg (by simp only [go_sem]) | rfl) rfl | rfl)) | ((first | with_reducible apply callB_i | with_reducible apply callK_intro | with_reducible apply callQ_i); (focus (first | assumption | (with_reducible apply invS_ac h0 h1 <;> (first | assumption | rfl | (simp (disch := omega) only [go_sem]; first | done | rfl) | omega | decide | (simp; done))))); (try (focus (refine WP.mk ?_ ?_; (focus ((repeat (first | exact trivial | (refine And.intro ?_ ?_; (focus first | exact plainV_wf rfl | (refine plainV_wf (plain_agg ?_); simp only [go_sem]; done) | (simp only [wfV, wf1, wfC, List.length_append, List.length_cons, List.length_nil]; omega))))))); (focus (first | rfl | (refine plain_agg ?_; simp only [go_sem]; done) | (refine plain_two ?_ ?_ <;> first | rfl | (refine plain_agg ?_; simp only [go_sem]; done)))))))) | refine WA_seq (WA_region ?_) | refine WA_region ?_ | refine WA_exit ?_); try simp (maxSteps := 1000000) (disch := first | omega | rfl | decide | (simp only [List.length_cons, List.length_nil, List.length_append, Bs_length, Is_length, Vs_length, Bl_length, Il_length] <;> omega)) only [go_sem, Nat.reduceAdd, Int.reduceAdd, Int.reduceSub, Int.reduceMul, Bool.not_true, Bool.not_false, decide_eq_true hpl, show decide (L ≤ p) = false from decide_eq_false (by omega), look_tail1, set_tail1, spF_at, row_look, hge, spF_sw, swS_at, yieldA_at 3 17, yieldA_at 4 32]) | refine WA_seq ?_ | refine WA_block ?_ | (refine WA_skip ?_; try simp only [go_sem]) | (refine WA_ret ?_; try simp only [go_sem]) | refine WA_ct rfl ?_ | refine WA_cf rfl ?_))
          have hsr : s p = swS s p r r := (swS_at s p r).symm
          rw [hsr] at hzp
          generalize inv m (E (s p) j) = v
          generalize swS s p r = q at *
          refine WA_forH (fun k => [(10, .int .i64 ((r + 1 + k : Nat) : Int)), (11, J), (12, J), (13, J), (71, J), (72, J), (73, J), (74, J), (75, J), (76, J), (77, J), (78, J), (79, J), (80, J), (81, J), (82, J), (83, J), (84, J), (85, J), (86, J), (87, J), (88, J), (89, J), (90, J), (91, J), (92, J), (93, J), (94, J), (95, J), (96, J), (97, J), (98, J), (99, J), (100, J), (101, J), (102, J), (103, J), (104, J), (105, J), (106, J), (107, J), (108, J), (109, J), (110, J), (111, J), (112, J)]) (fun k => rowsH h (Rw nc (elE m q r j v E k)) L ++ [A, ⟨Vs L (spF h.length nc q), true⟩]) (L - (r + 1)) ?_ ?_ ?_ <;> (try simp only [patT_cons, patT_nil, patL_cons, patL_nil, list_set_zero, list_set_succ, blk_set_zero, blk_set_succ])
          · (refine Drop_slots (by first | exact Nat.le_refl _ | (simp only [List.length_append, rowsH_len, List.length_cons, List.length_nil]; omega) | (simp only [List.length_append, rowsH_len, List.length_cons, List.length_nil, Nat.le_refl]; done)) ?_; focus ((try simp only [JL_same, JL_J, JL_nil, Int.reduceAdd, Nat.sub_sub, Int.natCast_add, Int.natCast_one, Int.natCast_zero, Int.cast_ofNat_Int, Nat.add_zero, Bool.false_eq_true, if_false, if_true]); (try exact JL_refl _)))
          · intro t ht
            have hn : r + 1 + t < L := by omega
            have hq := hPs.lt _ hn
            have hqr := hPs.lt r hr4
            have hne : q r ≠ q (r + 1 + t) := fun e => absurd (hPs.inj r _ hr4 hn e) (by omega)
            have hel : elE m q r j v E (t + 1) = upd (elE m q r j v E t) (q (r + 1 + t)) (rowN m (tm m (elE m q r j v E t (q (r + 1 + t)) j) v) (elE m q r j v E t (q (r + 1 + t))) (elE m q r j v E t (q r))) := rfl
            have hkr := (elE_at (m := m) (j := j) (v := v) (E := E) hPs hr4 t (by omega)).1
            rw [← hkr] at hzp
            rw [hel]
            clear hel hkr
            generalize elE m q r j v E t = F at hzp ⊢
            generalize hqq : q (r + 1 + t) = z at *
            (repeat (first | ((first | (refine And.intro ?_ ?_; focus (first | exact plain_agg (by simp only [go_sem]) | exact plain_two (by first | exact plain_agg (by simp only [go_sem]) | rfl) rfl | rfl)) | ((first | with_reducible apply callB_i | with_reducible apply callK_intro | with_reducible apply callQ_i); (focus (first | assumption | (with_reducible apply tmS_ac h0 h1 <;> (first | assumption | rfl | (simp (disch := omega) only [go_sem]; first | done | rfl) | omega | decide | (simp; done))))); (try (focus (refine WP.mk ?_ ?_; (focus ((repeat (first | exact trivial | (refine And.intro ?_ ?_; (focus first | exact plainV_wf rfl | (refine plainV_wf (plain_agg ?_); simp only [go_sem]; done) | (simp only [wfV, wf1, wfC, List.length_append, List.length_cons, List.length_nil]; omega))))))); (focus (first | rfl | (refine plain_agg ?_; simp only [go_sem]; done) | (refine plain_two ?_ ?_ <;> first | rfl | (refine plain_agg ?_; simp only [go_sem]; done)))))))) | refine WA_seq (WA_region ?_) | refine WA_region ?_ | refine WA_exit ?_); try simp (maxSteps := 1000000) (disch := first | omega | rfl | decide | (simp only [List.length_cons, List.length_nil, List.length_append, Bs_length, Is_length, Vs_length, Bl_length, Il_length] <;> omega)) only [go_sem, Nat.reduceAdd, Int.reduceAdd, Int.reduceSub, Int.reduceMul, Bool.not_true, Bool.not_false, decide_eq_true hn, look_tail1, spF_at, row_look, hqq, yieldA_at 3 17, yieldA_at 4 32]) | (refine WA_seq (WA_draw (id := 16) mixedOk (by kernel_rfl) ?_); simp (maxSteps := 1000000) (disch := first | omega | rfl | decide | (simp only [List.length_cons, List.length_nil, List.length_append, Bs_length, Is_length, Vs_length, Bl_length, Il_length] <;> omega)) only [go_sem, Nat.reduceAdd, Int.reduceAdd, Int.reduceSub, Int.reduceMul, Bool.not_true, Bool.not_false, decide_eq_true hn, look_tail1, spF_at, row_look, hqq, yieldA_at 3 17, yieldA_at 4 32]) | (refine WA_draw (id := 16) mixedOk (by kernel_rfl) ?_; simp (maxSteps := 1000000) (disch := first | omega | rfl | decide | (simp only [List.length_cons, List.length_nil, List.length_append, Bs_length, Is_length, Vs_length, Bl_length, Il_length] <;> omega)) only [go_sem, Nat.reduceAdd, Int.reduceAdd, Int.reduceSub, Int.reduceMul, Bool.not_true, Bool.not_false, decide_eq_true hn, look_tail1, spF_at, row_look, hqq, yieldA_at 3 17, yieldA_at 4 32]) | refine WA_seq ?_ | refine WA_block ?_ | (refine WA_skip ?_; try simp only [go_sem]) | (refine WA_ret ?_; try simp only [go_sem]) | refine WA_ct rfl ?_ | refine WA_cf rfl ?_))
            generalize tm m (F z j) v = f
            refine WA_forH (fun k => [(13, .int .i64 ((j + k : Nat) : Int)), (92, J), (93, J), (94, J), (95, J), (96, J), (97, J), (98, J), (99, J), (100, J), (101, J), (102, J), (103, J), (104, J), (105, J), (106, J), (107, J), (108, J), (109, J), (110, J), (111, J), (112, J)]) (fun k => rowsH h (Rw nc (upd F z (pre (j + k) (rowN m f (F z) (F (q r))) (F z)))) L ++ [A, ⟨Vs L (spF h.length nc q), true⟩]) (nc - j) ?_ ?_ ?_ <;> (try simp only [patT_cons, patT_nil, patL_cons, patL_nil, list_set_zero, list_set_succ, blk_set_zero, blk_set_succ])
            · rw [show j + 0 = j from rfl, pre_keep hzp, upd_id]
              (refine Drop_slots (by first | exact Nat.le_refl _ | (simp only [List.length_append, rowsH_len, List.length_cons, List.length_nil]; omega) | (simp only [List.length_append, rowsH_len, List.length_cons, List.length_nil, Nat.le_refl]; done)) ?_; focus ((try simp only [JL_same, JL_J, JL_nil, Int.reduceAdd, Nat.sub_sub, Int.natCast_add, Int.natCast_one, Int.natCast_zero, Int.cast_ofNat_Int, Nat.add_zero, Bool.false_eq_true, if_false, if_true]); (try exact JL_refl _)))
            · intro c hc
              have hcn : j + c < nc := by omega
              have e1 : upd F z (pre (j + c) (rowN m f (F z) (F (q r))) (F z)) z (j + c) = F z (j + c) := by unfold upd; rw [if_pos rfl]; exact pre_self (j + c) _ _
              have e2 : upd F z (pre (j + c) (rowN m f (F z) (F (q r))) (F z)) (q r) (j + c) = F (q r) (j + c) := by unfold upd; rw [if_neg hne]
              have e2' : upd F z (pre (j + c) (rowN m f (F z) (F (q r))) (F z)) (s p) (j + c) = F (q r) (j + c) := by rw [hsr]; exact e2
              have e3 : upd (upd F z (pre (j + c) (rowN m f (F z) (F (q r))) (F z))) z (upd (upd F z (pre (j + c) (rowN m f (F z) (F (q r))) (F z)) z) (j + c) (F z (j + c) ^^^ tm m f (F (q r) (j + c)))) = upd F z (pre (j + (c + 1)) (rowN m f (F z) (F (q r))) (F z)) := upd2_pre (E := F) (q := z) (k := j + c) (g := rowN m f (F z) (F (q r))) (x := F z)
              (repeat (first | ((first | (refine And.intro ?_ ?_; focus (first | exact plain_agg (by simp only [go_sem]) | exact plain_two (by first | exact plain_agg (by simp only [go_sem]) | rfl) rfl | rfl)) | ((first | with_reducible apply callB_i | with_reducible apply callK_intro | with_reducible apply callQ_i); (focus (first | assumption | (with_reducible apply tmS_ac h0 h1 <;> (first | assumption | rfl | (simp (disch := omega) only [go_sem]; first | done | rfl) | omega | decide | (simp; done))))); (try (focus (refine WP.mk ?_ ?_; (focus ((repeat (first | exact trivial | (refine And.intro ?_ ?_; (focus first | exact plainV_wf rfl | (refine plainV_wf (plain_agg ?_); simp only [go_sem]; done) | (simp only [wfV, wf1, wfC, List.length_append, List.length_cons, List.length_nil]; omega))))))); (focus (first | rfl | (refine plain_agg ?_; simp only [go_sem]; done) | (refine plain_two ?_ ?_ <;> first | rfl | (refine plain_agg ?_; simp only [go_sem]; done)))))))) | refine WA_seq (WA_region ?_) | refine WA_region ?_ | refine WA_exit ?_); try simp (maxSteps := 1000000) (disch := first | omega | rfl | decide | (simp only [List.length_cons, List.length_nil, List.length_append, Bs_length, Is_length, Vs_length, Bl_length, Il_length] <;> omega)) only [go_sem, Nat.reduceAdd, Int.reduceAdd, Int.reduceSub, Int.reduceMul, Bool.not_true, Bool.not_false, decide_eq_true hcn, look_tail1, spF_at, row_look, rows_set, Rw_upd, hqq, e1, e2, e2', e3, yieldA_at 3 17, yieldA_at 4 32]) | (refine (WA_rb (id := 20) [15] (SubM.refl _) mixedOk ?_); simp only [List.size_toArray, List.length_cons, List.length_nil]; (repeat (first | ((first | (refine And.intro ?_ ?_; focus (first | exact plain_agg (by simp only [go_sem]) | exact plain_two (by first | exact plain_agg (by simp only [go_sem]) | rfl) rfl | rfl)) | ((first | with_reducible apply callB_i | with_reducible apply callK_intro | with_reducible apply callQ_i); (focus (first | assumption | (with_reducible apply tmS_ac h0 h1 <;> (first | assumption | rfl | (simp (disch := omega) only [go_sem]; first | done | rfl) | omega | decide | (simp; done))))); (try (focus (refine WP.mk ?_ ?_; (focus ((repeat (first | exact trivial | (refine And.intro ?_ ?_; (focus first | exact plainV_wf rfl | (refine plainV_wf (plain_agg ?_); simp only [go_sem]; done) | (simp only [wfV, wf1, wfC, List.length_append, List.length_cons, List.length_nil]; omega))))))); (focus (first | rfl | (refine plain_agg ?_; simp only [go_sem]; done) | (refine plain_two ?_ ?_ <;> first | rfl | (refine plain_agg ?_; simp only [go_sem]; done)))))))) | refine RB_take false [0, 1, 2, 3, 4, 6, 7, 8, 9, 10] 6 (by rfl) (by kernel_rfl) (by decide) (by decide +kernel) ?_ | refine RB_take true [5, 11, 12] 3 (by rfl) (by kernel_rfl) (by decide) (by decide +kernel) ?_ | refine RB_take false [13, 14] 1 (by rfl) (by kernel_rfl) (by decide) (by decide +kernel) ?_ | refine RB_exec 15 _ (by rfl) (by decide +kernel) (by decide +kernel) ?_ | refine RB_done (by decide +kernel) ?_); try simp (maxSteps := 1000000) (disch := first | omega | rfl | decide | (simp only [List.length_cons, List.length_nil, List.length_append, Bs_length, Is_length, Vs_length, Bl_length, Il_length] <;> omega)) only [go_sem, Nat.reduceAdd, Int.reduceAdd, Int.reduceSub, Int.reduceMul, Bool.not_true, Bool.not_false, decide_eq_true hcn, look_tail1, spF_at, row_look, rows_set, Rw_upd, hqq, e1, e2, e2', e3, yieldA_at 3 17, yieldA_at 4 32])))) | refine WA_seq ?_ | refine WA_block ?_ | (refine WA_skip ?_; try simp only [go_sem]) | (refine WA_ret ?_; try simp only [go_sem]) | refine WA_ct rfl ?_ | refine WA_cf rfl ?_))
              all_goals (refine Drop_slots (by first | exact Nat.le_refl _ | (simp only [List.length_append, rowsH_len, List.length_cons, List.length_nil]; omega) | (simp only [List.length_append, rowsH_len, List.length_cons, List.length_nil, Nat.le_refl]; done)) ?_; focus ((try simp only [JL_same, JL_J, JL_nil, Int.reduceAdd, Nat.sub_sub, Int.natCast_add, Int.natCast_one, Int.natCast_zero, Int.cast_ofNat_Int, Nat.add_zero, Bool.false_eq_true, if_false, if_true, Nat.add_assoc]); (try exact JL_refl _)))
            · rw [show j + (nc - j) = nc by omega, Rw_pre]
              (repeat (first | ((first | (refine And.intro ?_ ?_; focus (first | exact plain_agg (by simp only [go_sem]) | exact plain_two (by first | exact plain_agg (by simp only [go_sem]) | rfl) rfl | rfl)) | refine WA_seq (WA_region ?_) | refine WA_region ?_ | refine WA_exit ?_); try simp (maxSteps := 1000000) (disch := first | omega | rfl | decide | (simp only [List.length_cons, List.length_nil, List.length_append, Bs_length, Is_length, Vs_length, Bl_length, Il_length] <;> omega)) only [go_sem, Nat.reduceAdd, Int.reduceAdd, Int.reduceSub, Int.reduceMul, Bool.not_true, Bool.not_false, show decide (nc < nc) = false from decide_eq_false (Nat.lt_irrefl _), yieldA_at 3 17, yieldA_at 4 32]) | refine WA_seq ?_ | refine WA_block ?_ | (refine WA_skip ?_; try simp only [go_sem]) | (refine WA_ret ?_; try simp only [go_sem]) | refine WA_ct rfl ?_ | refine WA_cf rfl ?_))
              (refine Drop_slots (by first | exact Nat.le_refl _ | (simp only [List.length_append, rowsH_len, List.length_cons, List.length_nil]; omega) | (simp only [List.length_append, rowsH_len, List.length_cons, List.length_nil, Nat.le_refl]; done)) ?_; focus ((try simp only [JL_same, JL_J, JL_nil, Int.reduceAdd, Nat.sub_sub, Int.natCast_add, Int.natCast_one, Int.natCast_zero, Int.cast_ofNat_Int, Nat.add_zero, Bool.false_eq_true, if_false, if_true, Nat.add_assoc]); (try exact JL_refl _)))
          · have hne : decide (r + 1 + (L - (r + 1)) < L) = false := decide_eq_false (by omega)
            (repeat (first | ((first | (refine And.intro ?_ ?_; focus (first | exact plain_agg (by simp only [go_sem]) | exact plain_two (by first | exact plain_agg (by simp only [go_sem]) | rfl) rfl | rfl)) | refine WA_seq (WA_region ?_) | refine WA_region ?_ | refine WA_exit ?_); try simp (maxSteps := 1000000) (disch := first | omega | rfl | decide | (simp only [List.length_cons, List.length_nil, List.length_append, Bs_length, Is_length, Vs_length, Bl_length, Il_length] <;> omega)) only [go_sem, Nat.reduceAdd, Int.reduceAdd, Int.reduceSub, Int.reduceMul, Bool.not_true, Bool.not_false, hne, yieldA_at 3 17, yieldA_at 4 32]) | refine WA_seq ?_ | refine WA_block ?_ | (refine WA_skip ?_; try simp only [go_sem]) | (refine WA_ret ?_; try simp only [go_sem]) | refine WA_ct rfl ?_ | refine WA_cf rfl ?_))
            (refine Drop_slots (by first | exact Nat.le_refl _ | (simp only [List.length_append, rowsH_len, List.length_cons, List.length_nil]; omega) | (simp only [List.length_append, rowsH_len, List.length_cons, List.length_nil, Nat.le_refl]; done)) ?_; focus ((try simp only [JL_same, JL_J, JL_nil, Int.reduceAdd, Nat.sub_sub, Int.natCast_add, Int.natCast_one, Int.natCast_zero, Int.cast_ofNat_Int, Nat.add_zero, Bool.false_eq_true, if_false, if_true]); (try exact JL_refl _)))
    · (repeat (first | ((first | (refine And.intro ?_ ?_; focus (first | exact plain_agg (by simp only [go_sem]) | exact plain_two (by first | exact plain_agg (by simp only [go_sem]) | rfl) rfl | rfl)) | refine WA_seq (WA_region ?_) | refine WA_region ?_ | refine WA_exit ?_); try simp (maxSteps := 1000000) (disch := first | omega | rfl | decide | (simp only [List.length_cons, List.length_nil, List.length_append, Bs_length, Is_length, Vs_length, Bl_length, Il_length] <;> omega)) only [go_sem, Nat.reduceAdd, Int.reduceAdd, Int.reduceSub, Int.reduceMul, Bool.not_true, Bool.not_false, hLp, look_tail1, spF_at, row_look, yieldA_at 3 17, yieldA_at 4 32]) | refine WA_seq ?_ | refine WA_block ?_ | (refine WA_skip ?_; try simp only [go_sem]) | (refine WA_ret ?_; try simp only [go_sem]) | refine WA_ct rfl ?_ | refine WA_cf rfl ?_))
      ((first | refine ret_none (by first | exact .inr rfl | exact .inl rfl) ?_ | refine ret_same (by first | exact .inr rfl | exact .inl rfl) ?_ (by first | rfl | exact plain_agg (by simp only [go_sem]) | exact plain_two (by first | exact plain_agg (by simp only [go_sem]) | rfl) (by first | exact plain_agg (by simp only [go_sem]) | rfl)) | refine ret_full (by first | exact .inr rfl | exact .inl rfl) (by simp) ?_); simp (maxSteps := 1000000) (disch := first | omega | rfl | decide | (simp only [List.length_cons, List.length_nil, List.length_append, Bs_length, Is_length, Vs_length, Bl_length, Il_length] <;> omega)) only [go_sem, Nat.reduceAdd, Int.reduceAdd, Int.reduceSub, Int.reduceMul, Bool.not_true, Bool.not_false]; try rfl)

end Go.Proofs.Ytkgiocoiojdgfaa
/- Draws: numbers that follow from a code. -/
namespace Go.Proofs.Ytkgiocoiojdgfaa
set_option linter.unusedSimpArgs false
set_option linter.unusedVariables false
set_option maxRecDepth 20000
set_option maxHeartbeats 1000000
open Go.Abs

/-- The code of a source: nil, or bytes in a block of their own. -/
inductive Cd (h : List Blk) (b : Nat) : Value → Nat → (Nat → UInt8) → Prop
  | nil (f : Nat → UInt8) : Cd h b (.slice none 0 0) 0 f
  | sl (f : Nat → UInt8) {bc n : Nat} {rc : Bool} (hb : h[bc]? = some ⟨Bs n f, rc⟩) (hne : bc ≠ b) : Cd h b (sl bc 0 n 1) n f
theorem Cd.set {h : List Blk} {b n : Nat} {cv : Value} {f : Nat → UInt8} (c : Cd h b cv n f) (x : Blk) : Cd (h.set b x) b cv n f := by
  cases c with
  | nil => exact .nil f
  | sl _ hb hne => exact .sl f (set_at hb hne.symm) hne
theorem Cd.app {h : List Blk} {b n : Nat} {cv : Value} {f : Nat → UInt8} (c : Cd h b cv n f) (L : List Blk) : Cd (h ++ L) b cv n f := by
  cases c with
  | nil => exact .nil f
  | sl _ hb hne => exact .sl f (look_old hb L) hne
/-- A source's block. -/
def Src (h : List Blk) (b : Nat) (cv : Value) (k : Blk) : Prop := ∃ (at' : Nat) (hs : Int) (n : Nat) (f : Nat → UInt8), k = ⟨Sr cv at' hs, true⟩ ∧ at' ≤ n ∧ n ≤ 4096 ∧ Cd h b cv n f
theorem Src.set {h : List Blk} {b : Nat} {cv : Value} {k : Blk} (s : Src h b cv k) (x : Blk) : Src (h.set b x) b cv k := by
  obtain ⟨a, hs, n, f, e, h1, h2, c⟩ := s
  exact ⟨a, hs, n, f, e, h1, h2, c.set x⟩
theorem Src.app {h : List Blk} {b : Nat} {cv : Value} {k : Blk} (s : Src h b cv k) (L : List Blk) : Src (h ++ L) b cv k := by
  obtain ⟨a, hs, n, f, e, h1, h2, c⟩ := s
  exact ⟨a, hs, n, f, e, h1, h2, c.app L⟩
end Go.Proofs.Ytkgiocoiojdgfaa
/- Draws of fields, bytes and numbers. -/
namespace Go.Proofs.Ytkgiocoiojdgfaa
set_option linter.unusedSimpArgs false
set_option linter.unusedVariables false
set_option maxRecDepth 20000
set_option maxHeartbeats 1000000
open Go.Abs

def SrcAt (h : List Blk) (b : Nat) (cv : Value) : Prop := ∃ k, h[b]? = some k ∧ Src h b cv k
/-- What a draw leaves of memory. -/
structure Aft (h h' : List Blk) (b : Nat) (cv : Value) : Prop where
  src : SrcAt h' b cv
  keep : ∀ (i : Nat) (x : Blk), i ≠ b → h[i]? = some x → h'[i]? = some x
  app : ∀ h0 : List Blk, h0.length ≤ b → (∃ L, h = h0 ++ L) → ∃ L, h' = h0 ++ L
  len : h.length ≤ h'.length
theorem SrcAt.lt {h : List Blk} {b : Nat} {cv : Value} (s : SrcAt h b cv) : b < h.length := by obtain ⟨k, hb, _⟩ := s; exact blt hb
theorem SrcAt.more {h : List Blk} {b : Nat} {cv : Value} (s : SrcAt h b cv) (L : List Blk) : Aft h (h ++ L) b cv := by
  obtain ⟨k, hb, hk⟩ := s
  exact ⟨⟨k, look_old hb L, hk.app L⟩, fun _ _ _ hx => look_old hx L, fun h0 _ ⟨A, e⟩ => ⟨A ++ L, by rw [e, List.append_assoc]⟩, by simp⟩
theorem Aft.trans {h h' h'' : List Blk} {b : Nat} {cv : Value} (x : Aft h h' b cv) (y : Aft h' h'' b cv) : Aft h h'' b cv :=
  ⟨y.src, fun i k hi hx => y.keep i k hi (x.keep i k hi hx), fun h0 hl e => y.app h0 hl (x.app h0 hl e), Nat.le_trans x.len y.len⟩
theorem app_set' {h0 L : List Blk} {i : Nat} (hi : h0.length ≤ i) (x : Blk) : ∃ L', (h0 ++ L).set i x = h0 ++ L' := ⟨L.set (i - h0.length) x, List.set_append_right _ _ hi⟩
/-- The fields among the first k numbers from 256 on. -/
def fl : Nat → List Int
  | 0 => []
  | k + 1 => if fieldB (256 + k) then fl k ++ [((256 + k : Nat) : Int)] else fl k
/-- All fields. -/
def FL : List Int := fl 256
attribute [irreducible] FL
theorem Il_snoc (l : List Int) (x : Int) : Il l ++ [.int .i64 x] = Il (l ++ [x]) := by unfold Il; rw [List.map_append]; rfl
/-- A code, as an argument. -/
inductive Cv (h : List Blk) : Value → Prop
  | nil : Cv h (.slice none 0 0)
  | sl {bc n : Nat} {f : Nat → UInt8} {rc : Bool} (hb : h[bc]? = some ⟨Bs n f, rc⟩) (hn : n ≤ 4096) : Cv h (sl bc 0 n 1)
theorem Cv.app {h : List Blk} {cv : Value} (c : Cv h cv) (L : List Blk) : Cv (h ++ L) cv := by
  cases c with
  | nil => exact .nil
  | sl hb hn => exact .sl (look_old hb L) hn
end Go.Proofs.Ytkgiocoiojdgfaa
/- Draws of blocks, places and matrices. -/
namespace Go.Proofs.Ytkgiocoiojdgfaa
set_option linter.unusedSimpArgs false
set_option linter.unusedVariables false
set_option maxRecDepth 20000
set_option maxHeartbeats 1000000
open Go.Abs

theorem Cd.lt {h : List Blk} {b n : Nat} {cv : Value} {f : Nat → UInt8} (c : Cd h b cv n f) : ∀ bc n', cv = Go.Abs.sl bc 0 n' 1 → bc < h.length := by
  intro bc n' e
  cases c with
  | nil => cases e
  | sl _ hb hne => cases e; exact blt hb
theorem Cd.set2 {h h0 : List Blk} {b n n0 : Nat} {cv : Value} {f f0 : Nat → UInt8} (c : Cd h b cv n f) (c0 : Cd h0 b cv n0 f0) {i : Nat} (hi : h0.length ≤ i) (x : Blk) : Cd (h.set i x) b cv n f := by
  cases c with
  | nil => exact .nil f
  | sl _ hb hne =>
    have := c0.lt _ _ rfl
    exact .sl _ (set_at hb (by omega)) hne
theorem Aft.set {h h' : List Blk} {b : Nat} {cv : Value} (a : Aft h h' b cv) (s : SrcAt h b cv) {i : Nat} (hi : h.length ≤ i) (x : Blk) : Aft h (h'.set i x) b cv := by
  have hl := s.lt
  obtain ⟨k0, _, _, _, _, _, _, _, _, c0⟩ := s
  refine ⟨?_, fun j y hj hy => ?_, fun h0 hb e => ?_, by simpa using a.len⟩
  · obtain ⟨k, hb, aa, hs, n, f, e, l1, l2, c⟩ := a.src
    exact ⟨k, set_at hb (by omega), aa, hs, n, f, e, l1, l2, c.set2 c0 hi x⟩
  · have := blt hy
    exact set_at (a.keep j y hj hy) (by omega)
  · obtain ⟨L, e2⟩ := a.app h0 hb e
    obtain ⟨A, eA⟩ := e
    have hlen : h0.length ≤ i := by have := congrArg List.length eA; rw [List.length_append] at this; omega
    rw [e2]
    exact app_set' hlen x
end Go.Proofs.Ytkgiocoiojdgfaa
/- The parts of networks and of ciphers. -/
namespace Go.Proofs.Ytkgiocoiojdgfaa
set_option linter.unusedSimpArgs false
set_option linter.unusedVariables false
set_option maxRecDepth 20000
set_option maxHeartbeats 1000000
open Go.Abs

/-- Whether these are a cipher's parts. -/
def cipB (m : Int) (bx mx pl : Nat → UInt8) (r : Int) : Bool := fieldB m.toNat && (boxOk bx && (detF m.toNat mx != 0 && (plOk pl && inR r 1 20)))
theorem cipB_nat {m : Int} {bx mx pl : Nat → UInt8} {r : Int} (h : cipB m bx mx pl r = true) : ∃ k : Nat, m = k ∧ 256 ≤ k ∧ k < 512 ∧ fieldB k = true ∧ detF k mx ≠ 0 ∧ plOk pl = true ∧ ∃ n : Nat, r = n ∧ 1 ≤ n ∧ n ≤ 20 := by
  unfold cipB at h
  simp only [Bool.and_eq_true] at h
  obtain ⟨hf, hb, hd, hp, hr⟩ := h
  obtain ⟨k, rfl, h2, h0, h1⟩ := fieldB_nat hf
  unfold inR at hr
  simp only [Bool.and_eq_true, decide_eq_true_eq] at hr
  exact ⟨k, rfl, h0, h1, h2, by simpa using hd, hp, r.toNat, by omega, by omega, by omega⟩

end Go.Proofs.Ytkgiocoiojdgfaa
/- Inverses of permutations, tables of products, engines. -/
namespace Go.Proofs.Ytkgiocoiojdgfaa
set_option linter.unusedSimpArgs false
set_option linter.unusedVariables false
set_option maxRecDepth 20000
set_option maxHeartbeats 1000000
open Go.Abs

/-- The first k places of the inverse. -/
def invP (f : Nat → UInt8) : Nat → Nat → UInt8
  | 0 => fun _ => 0
  | k + 1 => upd (invP f k) (f k).toNat (UInt8.ofNat k)
end Go.Proofs.Ytkgiocoiojdgfaa
/- Cycles of places: their lengths sum to 16. Plain. -/
namespace Go.Proofs.Ytkgiocoiojdgfaa
set_option linter.unusedSimpArgs false
set_option linter.unusedVariables false
set_option maxRecDepth 20000
set_option maxHeartbeats 1000000
open Go.Abs

/-- The k-th place of a walk, and what is met then. -/
def cyI (p : Nat → UInt8) (i : Nat) : Nat → Nat
  | 0 => i
  | k + 1 => (p (cyI p i k)).toNat
def cyD (p : Nat → UInt8) (d : Nat → Bool) (i : Nat) : Nat → (Nat → Bool)
  | 0 => d
  | k + 1 => upd (cyD p d i k) (cyI p i k) true
/-- How long the walk is. -/
def cyN (p : Nat → UInt8) (d : Nat → Bool) (i : Nat) : Nat := skip (fun k => !(cyD p d i k (cyI p i k))) 17 0
def cyL (p : Nat → UInt8) (i k : Nat) : List Int := (List.range k).map fun j => ((cyI p i j : Nat) : Int)
section
variable {p : Nat → UInt8} (hp : ∀ i, i < 16 → (p i).toNat < 16)
include hp
end
/-- What is met, and the cycles, after the first s starts. -/
def cyR (p : Nat → UInt8) : Nat → (Nat → Bool) × List (List Int)
  | 0 => (fun _ => false, [])
  | s + 1 => (cyD p (cyR p s).1 s (cyN p (cyR p s).1 s), if cyN p (cyR p s).1 s = 0 then (cyR p s).2 else (cyR p s).2 ++ [cyL p s (cyN p (cyR p s).1 s)])
/-- The number of cycles after s starts, and the j-th cycle. -/
def cyC (p : Nat → UInt8) (s : Nat) : Nat := (cyR p s).2.length
def cyRow (p : Nat → UInt8) (j : Nat) : List Int := (cyR p 16).2.getD j []
section
variable {p : Nat → UInt8} (hp : ∀ i, i < 16 → (p i).toNat < 16)
include hp
end
end Go.Proofs.Ytkgiocoiojdgfaa
/- CyclesOfPlaces: both sides. -/
namespace Go.Proofs.Ytkgiocoiojdgfaa
set_option linter.unusedSimpArgs false
set_option linter.unusedVariables false
set_option maxRecDepth 20000
set_option maxHeartbeats 1000000
open Go.Abs

/-- Slices of rows with lengths of their own. -/
def vsp (b0 : Nat) (len : Nat → Nat) : Nat → Value := fun j => sl (b0 + j) 0 (len j) 1
theorem Fit_spineV0 {N n' k b0 : Nat} {len : Nat → Nat} {r : List Nat} (hN : b0 + k ≤ N) (hn : N ≤ n') : Fit N r n' ⟨Vs k (vsp b0 len), true⟩ ⟨Vs k (vsp b0 len), true⟩ := by
  refine Fit_ren ?_ (fun h => h) ?_
  · show Vs k _ = (Vs k _).map (renC N r)
    unfold Vs
    rw [List.map_map]
    refine List.map_congr_left fun j hj => ?_
    have := List.mem_range.1 hj
    show sl (b0 + j) 0 (len j) 1 = Value.slice (some (renA N r ⟨b0 + j, 0, none⟩)) (len j) 1
    unfold renA
    rw [rhoF_old (by show b0 + j < N; omega)]
  · intro c hc
    obtain ⟨j, hj, rfl⟩ := List.mem_map.1 (show c ∈ (List.range k).map _ from hc)
    have := List.mem_range.1 hj
    show b0 + j < n'
    omega
theorem Fit_spineVS {N n' k b0 z : Nat} {len : Nat → Nat} {r : List Nat} (hN : N = b0 + k) {q : Nat} (hq : q = N + r.getD 0 0) (hz : z = len k) (hn : N < n') :
    Fit N r n' ⟨Vs k (vsp b0 len) ++ [sl q 0 z 1], true⟩ ⟨Vs (k + 1) (vsp b0 len), true⟩ := by
  subst hz
  refine Fit_ren ?_ (fun h => h) ?_
  · show Vs k _ ++ [sl q 0 (len k) 1] = (Vs (k + 1) (vsp b0 len)).map (renC N r)
    unfold Vs
    rw [List.range_succ, List.map_append, List.map_append]
    congr 1
    · rw [List.map_map]
      refine List.map_congr_left fun j hj => ?_
      have := List.mem_range.1 hj
      show sl (b0 + j) 0 (len j) 1 = Value.slice (some (renA N r ⟨b0 + j, 0, none⟩)) (len j) 1
      unfold renA
      rw [rhoF_old (by show b0 + j < N; omega)]
    · show [sl q 0 (len k) 1] = [Value.slice (some (renA N r ⟨b0 + k, 0, none⟩)) (len k) 1]
      unfold renA
      rw [show b0 + k = N from hN.symm, rhoF_new0, hq]
  · intro c hc
    obtain ⟨j, hj, rfl⟩ := List.mem_map.1 (show c ∈ (List.range (k + 1)).map _ from hc)
    have := List.mem_range.1 hj
    show b0 + j < n'
    omega
theorem Fit_Ts {N n' n : Nat} {r : List Nat} {f : Nat → Bool} : Fit N r n' ⟨Ts n f, true⟩ ⟨Ts n f, true⟩ := Fit_plain (by unfold Ts Vs; rw [List.all_map, List.all_eq_true]; exact fun _ _ => rfl)
attribute [local irreducible] cyC cyRow cyD cyI cyL vsp
end Go.Proofs.Ytkgiocoiojdgfaa
/- Inverses of permutations undo them; compositions are permutations. -/
namespace Go.Proofs.Ytkgiocoiojdgfaa
set_option linter.unusedSimpArgs false
set_option linter.unusedVariables false
set_option maxRecDepth 20000
set_option maxHeartbeats 1000000
open Go.Abs

/-- The inverse leads back. -/
theorem invP_at {f : Nat → UInt8} {n : Nat} (hn : n ≤ 256) (hi : ∀ i j, i < n → j < n → f i = f j → i = j) : ∀ k, k ≤ n → ∀ j, j < k → invP f k (f j).toNat = UInt8.ofNat j
  | 0, _, j, hj => absurd hj (Nat.not_lt_zero j)
  | k + 1, hk, j, hj => by
    show upd (invP f k) (f k).toNat (UInt8.ofNat k) (f j).toNat = UInt8.ofNat j
    unfold upd
    by_cases e : j = k
    · subst e; rw [if_pos rfl]
    · rw [if_neg fun h => e (hi j k (by omega) (by omega) (UInt8.toNat_inj.1 h))]
      exact invP_at hn hi k (by omega) j (by omega)
theorem plOk_inj {p : Nat → UInt8} (h : plOk p = true) : ∀ i j, i < 16 → j < 16 → p i = p j → i = j := by
  unfold plOk at h
  rw [Bool.and_eq_true] at h
  exact (twice_iff p 16).1 (by simpa using h.2)
theorem invP_pl {p : Nat → UInt8} (h : plOk p = true) {j : Nat} (hj : j < 16) : invP p 16 (p j).toNat = UInt8.ofNat j :=
  invP_at (by omega) (plOk_inj h) 16 (Nat.le_refl _) j hj
end Go.Proofs.Ytkgiocoiojdgfaa
/- What FnPlaces needs: cycles told with memory opaque, rows compared. -/
namespace Go.Proofs.Ytkgiocoiojdgfaa
set_option linter.unusedSimpArgs false
set_option linter.unusedVariables false
set_option maxRecDepth 20000
set_option maxHeartbeats 1000000
open Go.Abs

attribute [local irreducible] cyC cyRow
/-- The cycles of places, as returned. -/
inductive CyV (p : Nat → UInt8) (h : List Blk) : Value → Prop
  | no (hp : plOk p = false) : CyV p h (.slice none 0 0)
  | ok (hp : plOk p = true) {b : Nat} {g : Nat → Nat} {r r' : Bool} (hb : h[b]? = some ⟨Vs (cyC p 16) fun j => sl (g j) 0 (cyRow p j).length 1, r⟩) (hr : ∀ j, j < cyC p 16 → h[g j]? = some ⟨Il (cyRow p j), r'⟩) : CyV p h (sl b 0 (cyC p 16) 1)
theorem CyV.app {p : Nat → UInt8} {h : List Blk} {v : Value} (c : CyV p h v) (L : List Blk) : CyV p (h ++ L) v := by
  cases c with
  | no hp => exact .no hp
  | ok hp hb hr => exact .ok hp (look_old hb L) fun j hj => look_old (hr j hj) L
theorem CyV.ro {p : Nat → UInt8} {h : List Blk} {v : Value} (c : CyV p h v) : CyV p (ro h) v := by
  cases c with
  | no hp => exact .no hp
  | ok hp hb hr => exact .ok hp (ro_of hb) fun j hj => ro_of (hr j hj)
/-- A value that knows the first N blocks alone. -/
def OldV (N : Nat) (v : Value) : Prop := ∀ (r : List Nat) (n' : Nat), N ≤ n' → v = renV N r v ∧ wfV n' v
theorem OldV_plain {N : Nat} {v : Value} (h : plainV v = true) : OldV N v := fun _ _ _ => ⟨(renV_plain h).symm, plainV_wf h⟩
theorem OldV_sl {N b o n z : Nat} (h : b < N) : OldV N (sl b o n z) := fun r n' hn => by
  refine ⟨?_, show b < n' by omega⟩
  show sl b o n z = Value.slice (some (renA N r ⟨b, o, none⟩)) n z
  unfold renA
  rw [rhoF_old h]
theorem Cv.old {h : List Blk} {cv : Value} {N : Nat} (c : Cv h cv) (hN : h.length ≤ N) : OldV N cv := by
  cases c with
  | nil => exact OldV_plain rfl
  | sl hb hn => exact OldV_sl (Nat.lt_of_lt_of_le (blt hb) hN)
end Go.Proofs.Ytkgiocoiojdgfaa
/- Counts of columns and patterns: the reference. -/
namespace Go.Proofs.Ytkgiocoiojdgfaa
set_option linter.unusedSimpArgs false
set_option linter.unusedVariables false
set_option maxRecDepth 20000
set_option maxHeartbeats 1000000
open Go.Abs

/-- Compressed columns have the rank of the chosen ones. -/
theorem rank_comp {m R C : Nat} (hC : C < 16) (a : Nat → UInt8) : (rkI m (cn R 4) (fun q c => a (kp R q * 4 + kp C c)) (cn C 4)).r = (rkS m (cn R 4) C (E0 R a) 4).r := by
  have := rk_eq (m := m) (L := cn R 4) hC (E0 R a) 4 (by omega)
  have e : (fun q c => E0 R a q (kp C c)) = fun q c => a (kp R q * 4 + kp C c) := rfl
  rw [← e, this]; rfl
theorem free_le (m : Nat) (a : Nat → UInt8) (R C : Nat) : (rkS m (cn R 4) C (E0 R a) 4).r ≤ cn C 4 := by
  have h := fr_rank m (cn R 4) C (E0 R a) 4 (Nat.le_refl _)
  have e1 : cn C (4 - 4) = 0 := rfl
  have e2 : (rkS m (cn R 4) C (E0 R a) (4 - 4)).r = 0 := rfl
  rw [e1, e2] at h
  omega
theorem and_bit (C k : Nat) : (C >>> k) &&& 1 = if C.testBit k = true then 1 else 0 := by
  rw [Nat.testBit_eq_decide_div_mod_eq, Nat.shiftRight_eq_div_pow, Nat.and_one_is_mod]
  by_cases h : C / 2 ^ k % 2 = 1
  · rw [h]; rfl
  · rw [if_neg (by simpa using h)]; omega
theorem vecS_ac {m : Nat} (h0 : 256 ≤ m) (h1 : m < 512) (hf : fieldB m = true) (a : Nat → UInt8) {C Y : Nat} (hC : C < 16) (hY : Y < 16) (h : List Blk) :
    AC Try.prog 216 [.int .i64 m, .agg (Bs 16 a).toArray, .int .i64 C, .int .i64 Y] h (.int .i64 ((256 ^ freeN m a (15 ^^^ Y) C : Nat) : Int)) h := by
  have hR : 15 ^^^ Y < 16 := flip_lt Y hY
  have hfl := flip_bit Y hY
  have hfr : freeN m a (15 ^^^ Y) C = cn C 4 - (rkS m (cn (15 ^^^ Y) 4) C (E0 (15 ^^^ Y) a) 4).r := rfl
  have hrc := rank_comp (m := m) (R := 15 ^^^ Y) hC a
  have hfle := free_le m a (15 ^^^ Y) C
  generalize 15 ^^^ Y = R at *
  have hL := cn_le R 4
  have hnc := cn_le C 4
  generalize hE : (fun q c => a (kp R q * 4 + kp C c)) = E1
  have hE1 : ∀ q, E1 q = fun c => a (kp R q * 4 + kp C c) := fun q => by rw [← hE]
  rw [hE] at hrc
  (refine AC_begin (fun _ _ => Try.call216 _ _) Try.func216 rfl Try.ntmps216 Try.results216 (fun hwf => ?_); simp only [List.length_cons, List.length_nil, Nat.reduceAdd, Nat.reduceSub, List.replicate, List.cons_append, List.nil_append])
  (repeat (first | ((first | (refine And.intro ?_ ?_; focus (first | exact plain_agg (by simp only [go_sem]) | exact plain_two (by first | exact plain_agg (by simp only [go_sem]) | rfl) rfl | rfl)) | refine WA_seq (WA_region ?_) | refine WA_region ?_ | refine WA_exit ?_); try simp (maxSteps := 1000000) (disch := first | omega | rfl | decide | (simp only [List.length_cons, List.length_nil, List.length_append, Bs_length, Is_length, Vs_length, Bl_length, Il_length] <;> omega)) only [go_sem, Nat.reduceAdd, Int.reduceAdd, Int.reduceSub, Int.reduceMul, Bool.not_true, Bool.not_false]) | refine WA_seq ?_ | refine WA_block ?_ | (refine WA_skip ?_; try simp only [go_sem]) | (refine WA_ret ?_; try simp only [go_sem]) | refine WA_ct rfl ?_ | refine WA_cf rfl ?_))
  refine WA_forP (fun k => [(9, .int .i64 ((cn C k : Nat) : Int)), (11, .int .i64 k), (18, J), (19, J), (20, J), (21, J), (22, J), (23, J), (24, J), (25, J), (26, J), (27, J), (28, J)]) (fun k => []) (4) ?_ ?_ ?_ <;> (try simp only [patT_cons, patT_nil, patL_cons, patL_nil, list_set_zero, list_set_succ, blk_set_zero, blk_set_succ])
  · (refine Drop_slots (by first | exact Nat.le_refl _ | simp) ?_; focus ((try simp only [JL_same, JL_J, JL_nil, Int.reduceAdd, Nat.sub_sub, Int.natCast_add, Int.natCast_one, Int.natCast_zero, Int.cast_ofNat_Int, Nat.add_zero, Bool.false_eq_true, if_false, if_true, show cn C 0 = 0 from rfl]); (try exact JL_refl _)))
  · intro j hj
    have hsC := Nat.shiftRight_le C j
    have hcl := cn_le C j
    have hcs : cn C j + ((C >>> j) &&& 1) = cn C (j + 1) := by rw [and_bit]; rfl
    have hle1 : (C >>> j) &&& 1 ≤ 1 := Nat.and_le_right
    (repeat (first | ((first | (refine And.intro ?_ ?_; focus (first | exact plain_agg (by simp only [go_sem]) | exact plain_two (by first | exact plain_agg (by simp only [go_sem]) | rfl) rfl | rfl)) | refine WA_seq (WA_region ?_) | refine WA_region ?_ | refine WA_exit ?_); try simp (maxSteps := 1000000) (disch := first | omega | rfl | decide | (simp only [List.length_cons, List.length_nil, List.length_append, Bs_length, Is_length, Vs_length, Bl_length, Il_length] <;> omega)) only [go_sem, Nat.reduceAdd, Int.reduceAdd, Int.reduceSub, Int.reduceMul, Bool.not_true, Bool.not_false, hcs]) | refine WA_seq ?_ | refine WA_block ?_ | (refine WA_skip ?_; try simp only [go_sem]) | (refine WA_ret ?_; try simp only [go_sem]) | refine WA_ct rfl ?_ | refine WA_cf rfl ?_))
    (refine Drop_slots (by first | exact Nat.le_refl _ | simp) ?_; focus ((try simp only [JL_same, JL_J, JL_nil, Int.reduceAdd, Nat.sub_sub, Int.natCast_add, Int.natCast_one, Int.natCast_zero, Int.cast_ofNat_Int, Nat.add_zero, Bool.false_eq_true, if_false, if_true]); (try exact JL_refl _)))
  · (repeat (first | ((first | (refine And.intro ?_ ?_; focus (first | exact plain_agg (by simp only [go_sem]) | exact plain_two (by first | exact plain_agg (by simp only [go_sem]) | rfl) rfl | rfl)) | refine WA_seq (WA_region ?_) | refine WA_region ?_ | refine WA_exit ?_); try simp (maxSteps := 1000000) (disch := first | omega | rfl | decide | (simp only [List.length_cons, List.length_nil, List.length_append, Bs_length, Is_length, Vs_length, Bl_length, Il_length] <;> omega)) only [go_sem, Nat.reduceAdd, Int.reduceAdd, Int.reduceSub, Int.reduceMul, Bool.not_true, Bool.not_false]) | refine WA_seq ?_ | refine WA_block ?_ | (refine WA_skip ?_; try simp only [go_sem]) | (refine WA_ret ?_; try simp only [go_sem]) | refine WA_ct rfl ?_ | refine WA_cf rfl ?_))
    refine WA_forH (fun k => [(5, pt (rowsH h (Rw (cn C 4) E1) (cn R k)).length 0), (10, sl ((rowsH h (Rw (cn C 4) E1) (cn R k)).length + 1) 0 (cn R k) 1), (12, .int .i64 k), (13, J), (14, J), (17, J), (29, J), (30, J), (31, J), (32, J), (33, J), (34, J), (35, J), (36, J), (37, J), (38, J), (39, J), (40, J), (41, J), (42, J), (43, J), (44, J), (45, J), (46, J), (47, J), (48, J), (49, J), (50, J), (51, J), (52, J), (53, J), (54, J), (55, J), (56, J), (57, J), (58, J), (59, J), (60, J), (61, J)]) (fun k => rowsH h (Rw (cn C 4) E1) (cn R k) ++ [⟨Bs 16 a, true⟩, ⟨Vs (cn R k) (spF h.length (cn C 4) fun j => j), true⟩]) (4) ?_ ?_ ?_ <;> (try simp only [patT_cons, patT_nil, patL_cons, patL_nil, list_set_zero, list_set_succ, blk_set_zero, blk_set_succ])
    · rw [show cn R 0 = 0 from rfl, rowsH_zero]
      (refine Drop_slots (by first | exact Nat.le_refl _ | simp) ?_; focus ((try simp only [JL_same, JL_J, JL_nil, Int.reduceAdd, Nat.sub_sub, Int.natCast_add, Int.natCast_one, Int.natCast_zero, Int.cast_ofNat_Int, Nat.add_zero, Bool.false_eq_true, if_false, if_true]); (try exact JL_refl _)))
    · intro i hi
      have hle := cn_le R i
      have hsY := Nat.shiftRight_le Y i
      have hmo := cn_mono R (j := i) 4 (by omega)
      have hwj := rowsH_wf (k := cn R i) hwf (Rw_plain (cn C 4) E1)
      have hll := rowsH_len h (Rw (cn C 4) E1) (cn R i)
      have hyb := and_bit Y i
      cases hb : Y.testBit i
      · have hb2 : R.testBit i = true := by rw [hfl i hi, hb]; rfl
        rw [hb, if_neg (by decide)] at hyb
        (repeat (first | ((first | (refine And.intro ?_ ?_; focus (first | exact plain_agg (by simp only [go_sem]) | exact plain_two (by first | exact plain_agg (by simp only [go_sem]) | rfl) rfl | rfl)) | refine WA_seq (WA_region ?_) | refine WA_region ?_ | refine WA_exit ?_); try simp (maxSteps := 1000000) (disch := first | omega | rfl | decide | (simp only [List.length_cons, List.length_nil, List.length_append, Bs_length, Is_length, Vs_length, Bl_length, Il_length] <;> omega)) only [go_sem, Nat.reduceAdd, Int.reduceAdd, Int.reduceSub, Int.reduceMul, Bool.not_true, Bool.not_false, hyb]) | refine WA_seq ?_ | refine WA_block ?_ | (refine WA_skip ?_; try simp only [go_sem]) | (refine WA_ret ?_; try simp only [go_sem]) | refine WA_ct rfl ?_ | refine WA_cf rfl ?_))
        have hrow : Rw (cn C 4) E1 (cn R i) = ⟨Bs (cn C 4) fun c => a (i * 4 + kp C c), true⟩ := by unfold Rw; rw [hE1, kp_cn R hR i hi hb2]
        refine WA_forP (fun k => [(13, sl ((rowsH h (Rw (cn C 4) E1) (cn R i)).length + 2) 0 (cn C k) 1), (14, .int .i64 k), (39, J), (40, J), (41, J), (42, J), (43, J), (44, J), (45, J), (46, J), (47, J), (48, J), (49, J), (50, J), (51, J), (52, J), (53, J), (54, J), (55, J), (56, J), (57, J)]) (fun k => [(2, ⟨Bs (cn C k) fun c => a (i * 4 + kp C c), true⟩)]) (4) ?_ ?_ ?_ <;> (try simp only [patT_cons, patT_nil, patL_cons, patL_nil, list_set_zero, list_set_succ, blk_set_zero, blk_set_succ])
        · (refine Drop_slots (by first | exact Nat.le_refl _ | (rw [List.length_append, rowsH_len]; omega)) ?_; focus ((try simp only [JL_same, JL_J, JL_nil, Int.reduceAdd, Nat.sub_sub, Int.natCast_add, Int.natCast_one, Int.natCast_zero, Int.cast_ofNat_Int, Nat.add_zero, Bool.false_eq_true, if_false, if_true, show cn C 0 = 0 from rfl]); (try exact JL_refl _)))
        · intro j hj
          have hlc := cn_le C j
          have hsC := Nat.shiftRight_le C j
          have hcb := and_bit C j
          cases hc : C.testBit j
          · rw [hc, if_neg (by decide)] at hcb
            (repeat (first | ((first | (refine And.intro ?_ ?_; focus (first | exact plain_agg (by simp only [go_sem]) | exact plain_two (by first | exact plain_agg (by simp only [go_sem]) | rfl) rfl | rfl)) | refine WA_seq (WA_region ?_) | refine WA_region ?_ | refine WA_exit ?_); try simp (maxSteps := 1000000) (disch := first | omega | rfl | decide | (simp only [List.length_cons, List.length_nil, List.length_append, Bs_length, Is_length, Vs_length, Bl_length, Il_length] <;> omega)) only [go_sem, Nat.reduceAdd, Int.reduceAdd, Int.reduceSub, Int.reduceMul, Bool.not_true, Bool.not_false, hcb]) | refine WA_seq ?_ | refine WA_block ?_ | (refine WA_skip ?_; try simp only [go_sem]) | (refine WA_ret ?_; try simp only [go_sem]) | refine WA_ct rfl ?_ | refine WA_cf rfl ?_))
            rw [cn_f hc]
            (refine Drop_slots (by first | exact Nat.le_refl _ | (rw [List.length_append, rowsH_len]; omega)) ?_; focus ((try simp only [JL_same, JL_J, JL_nil, Int.reduceAdd, Nat.sub_sub, Int.natCast_add, Int.natCast_one, Int.natCast_zero, Int.cast_ofNat_Int, Nat.add_zero, Bool.false_eq_true, if_false, if_true]); (try exact JL_refl _)))
          · rw [hc, if_pos rfl] at hcb
            have hsn : Bs (cn C j) (fun c => a (i * 4 + kp C c)) ++ [B (a (i * 4 + j))] = Bs (cn C (j + 1)) fun c => a (i * 4 + kp C c) := by
              rw [cn_t hc]; unfold Bs; rw [List.range_succ, List.map_append]; congr 1
              show [B (a (i * 4 + j))] = [B (a (i * 4 + kp C (cn C j)))]
              rw [kp_cn C hC j hj hc]
            (repeat (first | ((first | (refine And.intro ?_ ?_; focus (first | exact plain_agg (by simp only [go_sem]) | exact plain_two (by first | exact plain_agg (by simp only [go_sem]) | rfl) rfl | rfl)) | refine WA_seq (WA_region ?_) | refine WA_region ?_ | refine WA_exit ?_); try simp (maxSteps := 1000000) (disch := first | omega | rfl | decide | (simp only [List.length_cons, List.length_nil, List.length_append, Bs_length, Is_length, Vs_length, Bl_length, Il_length] <;> omega)) only [go_sem, Nat.reduceAdd, Int.reduceAdd, Int.reduceSub, Int.reduceMul, Bool.not_true, Bool.not_false, hcb, lit1W, sub1, hsn]) | refine WA_seq ?_ | refine WA_block ?_ | (refine WA_skip ?_; try simp only [go_sem]) | (refine WA_ret ?_; try simp only [go_sem]) | refine WA_ct rfl ?_ | refine WA_cf rfl ?_))
            (refine Drop_gc [0, 1, 4] (by first | omega | first | assumption | omega | (simp only [List.length_append, List.length_cons, List.length_nil, List.length_replicate]; omega)) (by assumption) (by decide) ?_ ?_; (focus (repeat (first | exact trivial | (refine And.intro ⟨_, rfl, ?_⟩ ?_; (focus first | (refine Fit_plain ?_; simp only [go_sem, List.all_append, List.all_cons, List.all_nil, Bool.and_self]; done) | exact Fit_nil rfl | exact Fit_dead | (refine Fit_eq ?_ ?_; (focus simp only [go_sem, List.all_append, List.all_cons, List.all_nil, Bool.and_self]); (focus (first | rfl | (simp only [Int.natCast_add, Int.natCast_one, Int.natCast_zero, Int.cast_ofNat_Int, Nat.add_zero, cn_t hc]; done) | (simp only [Int.natCast_add, Int.natCast_one, Int.natCast_zero, Int.cast_ofNat_Int, Nat.add_zero, cn_t hc]; rfl)))) | (refine Fit_spine0 ?_ ?_; (focus omega); (focus (simp only [List.length_append, List.length_cons, List.length_nil]; omega))) | (refine Fit_spineS ?_ ?_ ?_; (focus first | omega | assumption); (focus rfl); (focus (simp only [List.length_append, List.length_cons, List.length_nil]; omega)))))))); (focus (repeat (first | exact JR_nil | refine JR_J ?_ | (refine JR_plain ?_ ?_; (focus first | rfl | (refine plain_agg ?_; simp only [go_sem, List.all_append, List.all_cons, List.all_nil, Bool.and_self]; done))) | ((first | refine JR_pt ?_ ?_ ?_ | refine JR_sl ?_ ?_ ?_); (focus first | (rw [rhoF_new0]; rfl) | (rw [rhoF_new]; rfl) | (rw [rhoF_old]; first | assumption | omega)); (focus first | assumption | omega | (simp only [List.length_append, List.length_cons, List.length_nil, List.length_replicate]; omega))) | (refine JR_plain' ?_ ?_ ?_; (focus first | rfl | (refine plain_agg ?_; simp only [go_sem, List.all_append, List.all_cons, List.all_nil, Bool.and_self]; done)); (focus (first | rfl | (simp only [Int.natCast_add, Int.natCast_one, Int.natCast_zero, Int.cast_ofNat_Int, Nat.add_zero, cn_t hc]; done) | (simp only [Int.natCast_add, Int.natCast_one, Int.natCast_zero, Int.cast_ofNat_Int, Nat.add_zero, cn_t hc]; rfl)))) | (refine JR_sl' ?_ ?_ ?_ ?_; (focus first | (rw [rhoF_new0]; rfl) | (rw [rhoF_new]; rfl) | (rw [rhoF_old]; first | assumption | omega)); (focus first | assumption | omega | (simp only [List.length_append, List.length_cons, List.length_nil, List.length_replicate]; omega)); (focus first | rfl | omega | (first | rfl | (simp only [Int.natCast_add, Int.natCast_one, Int.natCast_zero, Int.cast_ofNat_Int, Nat.add_zero, cn_t hc]; done) | (simp only [Int.natCast_add, Int.natCast_one, Int.natCast_zero, Int.cast_ofNat_Int, Nat.add_zero, cn_t hc]; rfl))))))))
        · (repeat (first | ((first | (refine And.intro ?_ ?_; focus (first | exact plain_agg (by simp only [go_sem]) | exact plain_two (by first | exact plain_agg (by simp only [go_sem]) | rfl) rfl | rfl)) | refine WA_seq (WA_region ?_) | refine WA_region ?_ | refine WA_exit ?_); try simp (maxSteps := 1000000) (disch := first | omega | rfl | decide | (simp only [List.length_cons, List.length_nil, List.length_append, Bs_length, Is_length, Vs_length, Bl_length, Il_length] <;> omega)) only [go_sem, Nat.reduceAdd, Int.reduceAdd, Int.reduceSub, Int.reduceMul, Bool.not_true, Bool.not_false, lit1W, sub1]) | refine WA_seq ?_ | refine WA_block ?_ | (refine WA_skip ?_; try simp only [go_sem]) | (refine WA_ret ?_; try simp only [go_sem]) | refine WA_ct rfl ?_ | refine WA_cf rfl ?_))
          rw [cn_t hb2, rowsH_app, rowsH_lenS, hrow]
          simp only [Nat.add_assoc, Nat.reduceAdd]
          (refine Drop_gc [2, 0, 4] (by first | omega | first | assumption | omega | (simp only [List.length_append, List.length_cons, List.length_nil, List.length_replicate]; omega)) (by assumption) (by decide) ?_ ?_; (focus (repeat (first | exact trivial | (refine And.intro ⟨_, rfl, ?_⟩ ?_; (focus first | (refine Fit_plain ?_; simp only [go_sem, List.all_append, List.all_cons, List.all_nil, Bool.and_self]; done) | exact Fit_nil rfl | exact Fit_dead | (refine Fit_eq ?_ ?_; (focus simp only [go_sem, List.all_append, List.all_cons, List.all_nil, Bool.and_self]); (focus (first | rfl | (simp only [Int.natCast_add, Int.natCast_one, Int.natCast_zero, Int.cast_ofNat_Int, Nat.add_zero]; done) | (simp only [Int.natCast_add, Int.natCast_one, Int.natCast_zero, Int.cast_ofNat_Int, Nat.add_zero]; rfl)))) | (refine Fit_spine0 ?_ ?_; (focus omega); (focus (simp only [List.length_append, List.length_cons, List.length_nil]; omega))) | (refine Fit_spineS ?_ ?_ ?_; (focus first | omega | assumption); (focus rfl); (focus (simp only [List.length_append, List.length_cons, List.length_nil]; omega)))))))); (focus (repeat (first | exact JR_nil | refine JR_J ?_ | (refine JR_plain ?_ ?_; (focus first | rfl | (refine plain_agg ?_; simp only [go_sem, List.all_append, List.all_cons, List.all_nil, Bool.and_self]; done))) | ((first | refine JR_pt ?_ ?_ ?_ | refine JR_sl ?_ ?_ ?_); (focus first | (rw [rhoF_new0]; rfl) | (rw [rhoF_new]; rfl) | (rw [rhoF_old]; first | assumption | omega)); (focus first | assumption | omega | (simp only [List.length_append, List.length_cons, List.length_nil, List.length_replicate]; omega))) | (refine JR_plain' ?_ ?_ ?_; (focus first | rfl | (refine plain_agg ?_; simp only [go_sem, List.all_append, List.all_cons, List.all_nil, Bool.and_self]; done)); (focus (first | rfl | (simp only [Int.natCast_add, Int.natCast_one, Int.natCast_zero, Int.cast_ofNat_Int, Nat.add_zero]; done) | (simp only [Int.natCast_add, Int.natCast_one, Int.natCast_zero, Int.cast_ofNat_Int, Nat.add_zero]; rfl)))) | (refine JR_sl' ?_ ?_ ?_ ?_; (focus first | (rw [rhoF_new0]; rfl) | (rw [rhoF_new]; rfl) | (rw [rhoF_old]; first | assumption | omega)); (focus first | assumption | omega | (simp only [List.length_append, List.length_cons, List.length_nil, List.length_replicate]; omega)); (focus first | rfl | omega | (first | rfl | (simp only [Int.natCast_add, Int.natCast_one, Int.natCast_zero, Int.cast_ofNat_Int, Nat.add_zero]; done) | (simp only [Int.natCast_add, Int.natCast_one, Int.natCast_zero, Int.cast_ofNat_Int, Nat.add_zero]; rfl))))))))
      · have hb2 : R.testBit i = false := by rw [hfl i hi, hb]; rfl
        rw [hb, if_pos rfl] at hyb
        (repeat (first | ((first | (refine And.intro ?_ ?_; focus (first | exact plain_agg (by simp only [go_sem]) | exact plain_two (by first | exact plain_agg (by simp only [go_sem]) | rfl) rfl | rfl)) | refine WA_seq (WA_region ?_) | refine WA_region ?_ | refine WA_exit ?_); try simp (maxSteps := 1000000) (disch := first | omega | rfl | decide | (simp only [List.length_cons, List.length_nil, List.length_append, Bs_length, Is_length, Vs_length, Bl_length, Il_length] <;> omega)) only [go_sem, Nat.reduceAdd, Int.reduceAdd, Int.reduceSub, Int.reduceMul, Bool.not_true, Bool.not_false, hyb]) | refine WA_seq ?_ | refine WA_block ?_ | (refine WA_skip ?_; try simp only [go_sem]) | (refine WA_ret ?_; try simp only [go_sem]) | refine WA_ct rfl ?_ | refine WA_cf rfl ?_))
        rw [cn_f hb2]
        (refine Drop_slots (by first | exact Nat.le_refl _ | (rw [List.length_append, rowsH_len]; omega)) ?_; focus ((try simp only [JL_same, JL_J, JL_nil, Int.reduceAdd, Nat.sub_sub, Int.natCast_add, Int.natCast_one, Int.natCast_zero, Int.cast_ofNat_Int, Nat.add_zero, Bool.false_eq_true, if_false, if_true]); (try exact JL_refl _)))
    · have hrk := rankL_ac h0 h1 hf (L := cn R 4) (nc := cn C 4) hL hnc E1 h ⟨Bs 16 a, true⟩
      have hrr : (rkI m (cn R 4) E1 (if cn R 4 = 0 then 0 else cn C 4)).r = (rkS m (cn R 4) C (E0 R a) 4).r := by
        by_cases hz : cn R 4 = 0
        · rw [if_pos hz]
          have := (rkS_inv m (cn R 4) C (E0 R a) 4).2
          show 0 = _
          omega
        · rw [if_neg hz, hrc]
      rw [hrr] at hrk
      generalize (rkI m (cn R 4) E1 (if cn R 4 = 0 then 0 else cn C 4)).E = Ex at hrk
      generalize (rkI m (cn R 4) E1 (if cn R 4 = 0 then 0 else cn C 4)).s = sx at hrk
      generalize (rkS m (cn R 4) C (E0 R a) 4).r = rk at *
      rw [hfr]
      have hll2 := rowsH_len h (Rw (cn C 4) E1) (cn R 4)
      have hadd : (rowsH h (Rw (cn C 4) E1) (cn R 4)).length + 1 = h.length + (cn R 4 + 1) := by omega
      rw [hadd]
      (repeat (first | ((first | (refine And.intro ?_ ?_; focus (first | exact plain_agg (by simp only [go_sem]) | exact plain_two (by first | exact plain_agg (by simp only [go_sem]) | rfl) rfl | rfl)) | ((first | with_reducible apply callB_i | with_reducible apply callK_intro | with_reducible apply callQ_i); (focus (first | assumption | (with_reducible apply hrk <;> (first | assumption | rfl | (simp (disch := omega) only [go_sem]; first | done | rfl) | omega | decide | (simp; done))))); (try (focus (refine WP.mk ?_ ?_; (focus ((repeat (first | exact trivial | (refine And.intro ?_ ?_; (focus first | exact plainV_wf rfl | (refine plainV_wf (plain_agg ?_); simp only [go_sem]; done) | (simp only [wfV, wf1, wfC, List.length_append, List.length_cons, List.length_nil]; omega))))))); (focus (first | rfl | (refine plain_agg ?_; simp only [go_sem]; done) | (refine plain_two ?_ ?_ <;> first | rfl | (refine plain_agg ?_; simp only [go_sem]; done)))))))) | refine WA_seq (WA_region ?_) | refine WA_region ?_ | refine WA_exit ?_); try simp (maxSteps := 1000000) (disch := first | omega | rfl | decide | (simp only [List.length_cons, List.length_nil, List.length_append, Bs_length, Is_length, Vs_length, Bl_length, Il_length] <;> omega)) only [go_sem, Nat.reduceAdd, Int.reduceAdd, Int.reduceSub, Int.reduceMul, Bool.not_true, Bool.not_false]) | refine WA_seq ?_ | refine WA_block ?_ | (refine WA_skip ?_; try simp only [go_sem]) | (refine WA_ret ?_; try simp only [go_sem]) | refine WA_ct rfl ?_ | refine WA_cf rfl ?_))
      refine WA_forH (fun k => [(15, .int .i64 ((256 ^ k : Nat) : Int)), (16, .int .i64 ((cn C 4 - rk - k : Nat))), (67, J), (68, J), (69, J), (70, J), (71, J), (72, J)]) (fun k => rowsH h (Rw (cn C 4) Ex) (cn R 4) ++ [⟨Bs 16 a, true⟩, ⟨Vs (cn R 4) (spF h.length (cn C 4) sx), true⟩]) (cn C 4 - rk) ?_ ?_ ?_ <;> (try simp only [patT_cons, patT_nil, patL_cons, patL_nil, list_set_zero, list_set_succ, blk_set_zero, blk_set_succ])
      · (refine Drop_slots (by first | exact Nat.le_refl _ | (simp only [List.length_append, rowsH_len, List.length_cons, List.length_nil]; omega) | (simp only [List.length_append, rowsH_len, List.length_cons, List.length_nil, Nat.le_refl]; done)) ?_; focus ((try simp only [JL_same, JL_J, JL_nil, Int.reduceAdd, Nat.sub_sub, Int.natCast_add, Int.natCast_one, Int.natCast_zero, Int.cast_ofNat_Int, Nat.add_zero, Bool.false_eq_true, if_false, if_true]); (try exact JL_refl _)))
      · intro k hk
        have hp : 256 ^ (k + 1) ≤ 256 ^ 4 := Nat.pow_le_pow_right (by omega) (by omega)
        have hpm : 256 ^ k * 256 = 256 ^ (k + 1) := rfl
        (repeat (first | ((first | (refine And.intro ?_ ?_; focus (first | exact plain_agg (by simp only [go_sem]) | exact plain_two (by first | exact plain_agg (by simp only [go_sem]) | rfl) rfl | rfl)) | refine WA_seq (WA_region ?_) | refine WA_region ?_ | refine WA_exit ?_); try simp (maxSteps := 1000000) (disch := first | omega | rfl | decide | (simp only [List.length_cons, List.length_nil, List.length_append, Bs_length, Is_length, Vs_length, Bl_length, Il_length] <;> omega)) only [go_sem, Nat.reduceAdd, Int.reduceAdd, Int.reduceSub, Int.reduceMul, Bool.not_true, Bool.not_false, decide_eq_true (show 0 < cn C 4 - rk - k by omega), hpm]) | refine WA_seq ?_ | refine WA_block ?_ | (refine WA_skip ?_; try simp only [go_sem]) | (refine WA_ret ?_; try simp only [go_sem]) | refine WA_ct rfl ?_ | refine WA_cf rfl ?_))
        (refine Drop_slots (by first | exact Nat.le_refl _ | (simp only [List.length_append, rowsH_len, List.length_cons, List.length_nil]; omega) | (simp only [List.length_append, rowsH_len, List.length_cons, List.length_nil, Nat.le_refl]; done)) ?_; focus ((try simp only [JL_same, JL_J, JL_nil, Int.reduceAdd, Nat.sub_sub, Int.natCast_add, Int.natCast_one, Int.natCast_zero, Int.cast_ofNat_Int, Nat.add_zero, Bool.false_eq_true, if_false, if_true, Nat.add_assoc]); (try exact JL_refl _)))
      · (repeat (first | ((first | (refine And.intro ?_ ?_; focus (first | exact plain_agg (by simp only [go_sem]) | exact plain_two (by first | exact plain_agg (by simp only [go_sem]) | rfl) rfl | rfl)) | refine WA_seq (WA_region ?_) | refine WA_region ?_ | refine WA_exit ?_); try simp (maxSteps := 1000000) (disch := first | omega | rfl | decide | (simp only [List.length_cons, List.length_nil, List.length_append, Bs_length, Is_length, Vs_length, Bl_length, Il_length] <;> omega)) only [go_sem, Nat.reduceAdd, Int.reduceAdd, Int.reduceSub, Int.reduceMul, Bool.not_true, Bool.not_false, Nat.sub_self]) | refine WA_seq ?_ | refine WA_block ?_ | (refine WA_skip ?_; try simp only [go_sem]) | (refine WA_ret ?_; try simp only [go_sem]) | refine WA_ct rfl ?_ | refine WA_cf rfl ?_))
        rw [rowsH_cut]
        ((first | refine ret_none (by first | exact .inr rfl | exact .inl rfl) ?_ | refine ret_same (by first | exact .inr rfl | exact .inl rfl) ?_ (by first | rfl | exact plain_agg (by simp only [go_sem]) | exact plain_two (by first | exact plain_agg (by simp only [go_sem]) | rfl) (by first | exact plain_agg (by simp only [go_sem]) | rfl)) | refine ret_full (by first | exact .inr rfl | exact .inl rfl) (by simp) ?_); simp (maxSteps := 1000000) (disch := first | omega | rfl | decide | (simp only [List.length_cons, List.length_nil, List.length_append, Bs_length, Is_length, Vs_length, Bl_length, Il_length] <;> omega)) only [go_sem, Nat.reduceAdd, Int.reduceAdd, Int.reduceSub, Int.reduceMul, Bool.not_true, Bool.not_false]; try rfl)

end Go.Proofs.Ytkgiocoiojdgfaa
/- Which patterns become which: the reference. -/
namespace Go.Proofs.Ytkgiocoiojdgfaa
set_option linter.unusedSimpArgs false
set_option linter.unusedVariables false
set_option maxRecDepth 20000
set_option maxHeartbeats 1000000
open Go.Abs

theorem sumI_le {f : Nat → Int} {c : Int} : ∀ {n : Nat}, (∀ i, i < n → -c ≤ f i ∧ f i ≤ c) → -(n * c) ≤ sumI f n ∧ sumI f n ≤ n * c
  | 0, _ => by show -((0 : Nat) * c) ≤ 0 ∧ 0 ≤ ((0 : Nat) : Int) * c; simp
  | n + 1, h => by
    have h1 := sumI_le (f := f) (c := c) (n := n) fun i hi => h i (by omega)
    have h2 := h n (by omega)
    unfold sumI
    rw [Int.natCast_succ, Int.add_mul, Int.one_mul]
    omega
/-- The sign after j bits. -/
def sgP (K : Nat) : Nat → Int
  | 0 => 1
  | j + 1 => if K.testBit j = true then -sgP K j else sgP K j
theorem sgP_t {K j : Nat} (h : K.testBit j = true) : sgP K (j + 1) = -sgP K j := by rw [sgP, if_pos h]
theorem sgP_f {K j : Nat} (h : K.testBit j = false) : sgP K (j + 1) = sgP K j := by rw [sgP, h]; rfl
theorem sgP_le (K : Nat) : ∀ j, sgP K j = 1 ∨ sgP K j = -1
  | 0 => .inl rfl
  | j + 1 => by
    rw [sgP]
    rcases sgP_le K j with h | h <;> rw [h] <;> split <;> simp
theorem sgP_all : ∀ u, u < 16 → ∀ w, w < 16 → sgP (u + 16 * w) (blen (u + 16 * w)) = sgn u * sgn w := by decide +kernel
theorem sgn_le (n : Nat) : sgn n = 1 ∨ sgn n = -1 := by unfold sgn; split <;> simp
theorem free_4 (m : Nat) (a : Nat → UInt8) (R C : Nat) : (256 : Nat) ^ freeN m a R C ≤ 4294967296 := by
  have h1 : freeN m a R C ≤ 4 := by have := cn_le C 4; unfold freeN; omega
  exact Nat.le_trans (Nat.pow_le_pow_right (by omega) h1) (by decide)
/-- A summand. -/
def trmS (m : Nat) (a : Nat → UInt8) (p q x y : Nat) : Int := (if x &&& p = x then sgn (p ^^^ x) else 0) * (if y &&& q = y then sgn (q ^^^ y) else 0) * (256 : Int) ^ freeN m a (15 ^^^ y) x
theorem pow_castN (n : Nat) : (256 : Int) ^ n = ((256 ^ n : Nat) : Int) := by simp
theorem trmS_le (m : Nat) (a : Nat → UInt8) (p q x y : Nat) : -(4294967296 : Int) ≤ trmS m a p q x y ∧ trmS m a p q x y ≤ 4294967296 := by
  have h := free_4 m a (15 ^^^ y) x
  unfold trmS
  rw [pow_castN]
  generalize 256 ^ freeN m a (15 ^^^ y) x = V at *
  rcases sgn_le (p ^^^ x) with h1 | h1 <;> rcases sgn_le (q ^^^ y) with h2 | h2 <;> rw [h1, h2] <;> (split <;> split <;> simp <;> omega)
theorem trmS_no {m : Nat} {a : Nat → UInt8} {p q x y : Nat} (h : ¬ (x &&& p = x ∧ y &&& q = y)) : trmS m a p q x y = 0 := by
  unfold trmS
  by_cases h1 : x &&& p = x
  · rw [if_neg (fun h2 => h ⟨h1, h2⟩), Int.mul_zero, Int.zero_mul]
  · rw [if_neg h1, Int.zero_mul, Int.zero_mul]
theorem trmS_yes {m : Nat} {a : Nat → UInt8} {p q x y : Nat} (h1 : x &&& p = x) (h2 : y &&& q = y) : trmS m a p q x y = sgn (p ^^^ x) * sgn (q ^^^ y) * ((256 ^ freeN m a (15 ^^^ y) x : Nat) : Int) := by
  unfold trmS; rw [if_pos h1, if_pos h2, pow_castN]
theorem row_le (m : Nat) (a : Nat → UInt8) (p q x k : Nat) : -((k : Int) * 4294967296) ≤ sumI (trmS m a p q x) k ∧ sumI (trmS m a p q x) k ≤ (k : Int) * 4294967296 := sumI_le fun i _ => trmS_le m a p q x i
theorem all_le (m : Nat) (a : Nat → UInt8) (p q k : Nat) : -((k : Int) * 68719476736) ≤ sumI (fun x => sumI (trmS m a p q x) 16) k ∧ sumI (fun x => sumI (trmS m a p q x) 16) k ≤ (k : Int) * 68719476736 :=
  sumI_le fun i _ => by have := row_le m a p q i 16; omega
theorem natne (x y : Nat) : (((x : Nat) : Int) != ((y : Nat) : Int)) = !decide (x = y) := by
  by_cases h : x = y
  · subst h; simp
  · rw [decide_eq_false h, Bool.not_false, bne_iff_ne]; omega
set_option maxHeartbeats 4000000 in
theorem becS_ac {m : Nat} (h0 : 256 ≤ m) (h1 : m < 512) (hf : fieldB m = true) (a : Nat → UInt8) {p q : Nat} (hp : p < 16) (hq : q < 16) (h : List Blk) :
    AC Try.prog 196 [.int .i64 m, .agg (Bs 16 a).toArray, .int .i64 p, .int .i64 q] h (.bool (decide (0 < manyF m a p q))) h := by
  rw [← many_S h0 h1 hf a hp hq]
  show AC _ _ _ _ (.bool (decide (0 < sumI (fun x => sumI (trmS m a p q x) 16) 16))) _
  (refine AC_begin (fun _ _ => Try.call196 _ _) Try.func196 rfl Try.ntmps196 Try.results196 (fun hwf => ?_); simp only [List.length_cons, List.length_nil, Nat.reduceAdd, Nat.reduceSub, List.replicate, List.cons_append, List.nil_append])
  (repeat (first | ((first | (refine And.intro ?_ ?_; focus (first | exact plain_agg (by simp only [go_sem]) | exact plain_two (by first | exact plain_agg (by simp only [go_sem]) | rfl) rfl | rfl)) | refine WA_seq (WA_region ?_) | refine WA_region ?_ | refine WA_exit ?_); try simp (maxSteps := 1000000) (disch := first | omega | rfl | decide | (simp only [List.length_cons, List.length_nil, List.length_append, Bs_length, Is_length, Vs_length, Bl_length, Il_length] <;> omega)) only [go_sem, Nat.reduceAdd, Int.reduceAdd, Int.reduceSub, Int.reduceMul, Bool.not_true, Bool.not_false, yieldA_at 5 27]) | refine WA_seq ?_ | refine WA_block ?_ | (refine WA_skip ?_; try simp only [go_sem]) | (refine WA_ret ?_; try simp only [go_sem]) | refine WA_ct rfl ?_ | refine WA_cf rfl ?_))
  refine WA_forP (fun k => [(9, .int .i64 (sumI (fun x => sumI (trmS m a p q x) 16) k)), (10, .int .i64 k), (11, J), (12, J), (13, J), (14, J), (15, J), (16, J), (17, J), (18, J), (19, J), (20, J), (21, J), (22, J), (23, J), (24, J), (25, J), (26, J), (27, J), (28, J), (29, J), (30, J), (31, J), (32, J), (33, J), (34, J), (35, J), (36, J), (37, J), (38, J), (39, J), (40, J), (41, J), (42, J), (43, J), (44, J), (45, J), (46, J), (47, J), (48, J), (49, J), (50, J), (51, J), (52, J), (53, J), (54, J), (55, J), (56, J), (57, J), (58, J), (59, J)]) (fun k => [(0, ⟨Bs 16 a, true⟩)]) (16) ?_ ?_ ?_ <;> (try simp only [patT_cons, patT_nil, patL_cons, patL_nil, list_set_zero, list_set_succ, blk_set_zero, blk_set_succ])
  · (refine Drop_slots (by first | exact Nat.le_refl _ | simp) ?_; focus ((try simp only [JL_same, JL_J, JL_nil, Int.reduceAdd, Nat.sub_sub, Int.natCast_add, Int.natCast_one, Int.natCast_zero, Int.cast_ofNat_Int, Nat.add_zero, Bool.false_eq_true, if_false, if_true, show sumI (fun x => sumI (trmS m a p q x) 16) 0 = 0 from rfl]); (try exact JL_refl _)))
  · intro x hx
    have hall := all_le m a p q x
    have hnx : sumI (fun x => sumI (trmS m a p q x) 16) x + sumI (trmS m a p q x) 16 = sumI (fun x => sumI (trmS m a p q x) 16) (x + 1) := rfl
    rw [← hnx]
    generalize sumI (fun x => sumI (trmS m a p q x) 16) x = S0 at *
    (repeat (first | ((first | (refine And.intro ?_ ?_; focus (first | exact plain_agg (by simp only [go_sem]) | exact plain_two (by first | exact plain_agg (by simp only [go_sem]) | rfl) rfl | rfl)) | refine WA_seq (WA_region ?_) | refine WA_region ?_ | refine WA_exit ?_); try simp (maxSteps := 1000000) (disch := first | omega | rfl | decide | (simp only [List.length_cons, List.length_nil, List.length_append, Bs_length, Is_length, Vs_length, Bl_length, Il_length] <;> omega)) only [go_sem, Nat.reduceAdd, Int.reduceAdd, Int.reduceSub, Int.reduceMul, Bool.not_true, Bool.not_false, yieldA_at 5 27]) | refine WA_seq ?_ | refine WA_block ?_ | (refine WA_skip ?_; try simp only [go_sem]) | (refine WA_ret ?_; try simp only [go_sem]) | refine WA_ct rfl ?_ | refine WA_cf rfl ?_))
    refine WA_forP (fun k => [(9, .int .i64 (S0 + sumI (trmS m a p q x) k)), (11, .int .i64 k), (12, J), (13, J), (18, J), (19, J), (20, J), (21, J), (22, J), (23, J), (24, J), (25, J), (26, J), (27, J), (28, J), (29, J), (30, J), (31, J), (32, J), (33, J), (34, J), (35, J), (36, J), (37, J), (38, J), (39, J), (40, J), (41, J), (42, J), (43, J), (44, J), (45, J), (46, J), (47, J), (48, J), (49, J), (50, J), (51, J), (52, J), (53, J), (54, J), (55, J), (56, J), (57, J), (58, J), (59, J)]) (fun k => [(0, ⟨Bs 16 a, true⟩)]) (16) ?_ ?_ ?_ <;> (try simp only [patT_cons, patT_nil, patL_cons, patL_nil, list_set_zero, list_set_succ, blk_set_zero, blk_set_succ])
    · (refine Drop_slots (by first | exact Nat.le_refl _ | simp) ?_; focus ((try simp only [JL_same, JL_J, JL_nil, Int.reduceAdd, Nat.sub_sub, Int.natCast_add, Int.natCast_one, Int.natCast_zero, Int.cast_ofNat_Int, Nat.add_zero, Bool.false_eq_true, if_false, if_true, show sumI (trmS m a p q x) 0 = 0 from rfl, Int.add_zero]); (try exact JL_refl _)))
    · intro y hy
      have hrow := row_le m a p q x y
      have hrow2 := row_le m a p q x (y + 1)
      have hny : sumI (trmS m a p q x) (y + 1) = sumI (trmS m a p q x) y + trmS m a p q x y := rfl
      rw [hny] at hrow2 ⊢
      have hax := bits_and_N (a := x) (b := p) (by omega) (by omega)
      have hay := bits_and_N (a := y) (b := q) (by omega) (by omega)
      by_cases hm : x &&& p = x ∧ y &&& q = y
      · have ht := trmS_yes (m := m) (a := a) hm.1 hm.2
        have hu : p ^^^ x < 16 := sub_lt x hx p hp
        have hw : q ^^^ y < 16 := sub_lt y hy q hq
        have hxx := bits_xor_N (a := p) (b := x) (by omega) (by omega)
        have hxy := bits_xor_N (a := q) (b := y) (by omega) (by omega)
        have hsg := sgP_all _ hu _ hw
        have hv := vecS_ac h0 h1 hf a hx hy
        have hv4 := free_4 m a (15 ^^^ y) x
        rw [ht] at hrow2 ⊢
        generalize sumI (trmS m a p q x) y = S1 at *
        generalize 256 ^ freeN m a (15 ^^^ y) x = V at *
        generalize p ^^^ x = u at *
        generalize q ^^^ y = w at *
        (repeat (first | ((first | (refine And.intro ?_ ?_; focus (first | exact plain_agg (by simp only [go_sem]) | exact plain_two (by first | exact plain_agg (by simp only [go_sem]) | rfl) rfl | rfl)) | refine WA_seq (WA_region ?_) | refine WA_region ?_ | refine WA_exit ?_); try simp (maxSteps := 1000000) (disch := first | omega | rfl | decide | (simp only [List.length_cons, List.length_nil, List.length_append, Bs_length, Is_length, Vs_length, Bl_length, Il_length] <;> omega)) only [go_sem, Nat.reduceAdd, Int.reduceAdd, Int.reduceSub, Int.reduceMul, Bool.not_true, Bool.not_false, hax, hay, natne, decide_eq_true hm.1, decide_eq_true hm.2, Bool.not_true, hxx, hxy, yieldA_at 5 27]) | refine WA_seq ?_ | refine WA_block ?_ | (refine WA_skip ?_; try simp only [go_sem]) | (refine WA_ret ?_; try simp only [go_sem]) | refine WA_ct rfl ?_ | refine WA_cf rfl ?_))
        refine WA_forP (fun k => [(12, .int .i64 (sgP (u + 16 * w) k)), (13, .int .i64 (((u + 16 * w) >>> k : Nat))), (42, J), (43, J), (44, J), (45, J), (46, J), (47, J), (48, J), (49, J), (50, J)]) (fun k => [(0, ⟨Bs 16 a, true⟩)]) (blen (u + 16 * w)) ?_ ?_ ?_ <;> (try simp only [patT_cons, patT_nil, patL_cons, patL_nil, list_set_zero, list_set_succ, blk_set_zero, blk_set_succ])
        · (refine Drop_slots (by first | exact Nat.le_refl _ | simp) ?_; focus ((try simp only [JL_same, JL_J, JL_nil, Int.reduceAdd, Nat.sub_sub, Int.natCast_add, Int.natCast_one, Int.natCast_zero, Int.cast_ofNat_Int, Nat.add_zero, Bool.false_eq_true, if_false, if_true, show sgP (u + 16 * w) 0 = 1 from rfl, Nat.shiftRight_zero]); (try exact JL_refl _)))
        · intro j hj
          have hpp := blen_pos hj
          have hs := Nat.shiftRight_le (u + 16 * w) j
          have hww := wrap_N (n := (u + 16 * w) >>> (j + 1)) (Nat.lt_of_le_of_lt (Nat.shiftRight_le (u + 16 * w) (j + 1)) (by omega))
          have hneg : IntKind.i64.wrap (0 - sgP (u + 16 * w) j) = -sgP (u + 16 * w) j := by
            rw [Int.zero_sub]
            rcases sgP_le (u + 16 * w) j with h | h <;> rw [h] <;> rfl
          cases hb : (u + 16 * w).testBit j
          · (repeat (first | ((first | (refine And.intro ?_ ?_; focus (first | exact plain_agg (by simp only [go_sem]) | exact plain_two (by first | exact plain_agg (by simp only [go_sem]) | rfl) rfl | rfl)) | refine WA_seq (WA_region ?_) | refine WA_region ?_ | refine WA_exit ?_); try simp (maxSteps := 1000000) (disch := first | omega | rfl | decide | (simp only [List.length_cons, List.length_nil, List.length_append, Bs_length, Is_length, Vs_length, Bl_length, Il_length] <;> omega)) only [go_sem, Nat.reduceAdd, Int.reduceAdd, Int.reduceSub, Int.reduceMul, Bool.not_true, Bool.not_false, hb, hww, yieldA_at 5 27]) | refine WA_seq ?_ | refine WA_block ?_ | (refine WA_skip ?_; try simp only [go_sem]) | (refine WA_ret ?_; try simp only [go_sem]) | refine WA_ct rfl ?_ | refine WA_cf rfl ?_))
            (refine Drop_slots (by first | exact Nat.le_refl _ | simp) ?_; focus ((try simp only [JL_same, JL_J, JL_nil, Int.reduceAdd, Nat.sub_sub, Int.natCast_add, Int.natCast_one, Int.natCast_zero, Int.cast_ofNat_Int, Nat.add_zero, Bool.false_eq_true, if_false, if_true, sgP_f hb]); (try exact JL_refl _)))
          · (repeat (first | ((first | (refine And.intro ?_ ?_; focus (first | exact plain_agg (by simp only [go_sem]) | exact plain_two (by first | exact plain_agg (by simp only [go_sem]) | rfl) rfl | rfl)) | refine WA_seq (WA_region ?_) | refine WA_region ?_ | refine WA_exit ?_); try simp (maxSteps := 1000000) (disch := first | omega | rfl | decide | (simp only [List.length_cons, List.length_nil, List.length_append, Bs_length, Is_length, Vs_length, Bl_length, Il_length] <;> omega)) only [go_sem, Nat.reduceAdd, Int.reduceAdd, Int.reduceSub, Int.reduceMul, Bool.not_true, Bool.not_false, hb, hww, hneg, yieldA_at 5 27]) | refine WA_seq ?_ | refine WA_block ?_ | (refine WA_skip ?_; try simp only [go_sem]) | (refine WA_ret ?_; try simp only [go_sem]) | refine WA_ct rfl ?_ | refine WA_cf rfl ?_))
            (refine Drop_slots (by first | exact Nat.le_refl _ | simp) ?_; focus ((try simp only [JL_same, JL_J, JL_nil, Int.reduceAdd, Nat.sub_sub, Int.natCast_add, Int.natCast_one, Int.natCast_zero, Int.cast_ofNat_Int, Nat.add_zero, Bool.false_eq_true, if_false, if_true, sgP_t hb]); (try exact JL_refl _)))
        · rw [hsg]
          have hmw : IntKind.i64.wrap (sgn u * sgn w * ((V : Nat) : Int)) = sgn u * sgn w * ((V : Nat) : Int) := by
            rcases sgn_le u with h | h <;> rcases sgn_le w with h' | h' <;> rw [h, h'] <;> exact wrap_i64 (by simp <;> omega) (by simp <;> omega)
          have haw : IntKind.i64.wrap (S0 + S1 + sgn u * sgn w * ((V : Nat) : Int)) = S0 + (S1 + sgn u * sgn w * ((V : Nat) : Int)) := by
            rw [Int.add_assoc]; exact wrap_i64 (by omega) (by omega)
          (repeat (first | ((first | (refine And.intro ?_ ?_; focus (first | exact plain_agg (by simp only [go_sem]) | exact plain_two (by first | exact plain_agg (by simp only [go_sem]) | rfl) rfl | rfl)) | ((first | with_reducible apply callB_i | with_reducible apply callK_intro | with_reducible apply callQ_i); (focus (first | assumption | (with_reducible apply hv <;> (first | assumption | rfl | (simp (disch := omega) only [go_sem]; first | done | rfl) | omega | decide | (simp; done))))); (try (focus (refine WP.mk ?_ ?_; (focus ((repeat (first | exact trivial | (refine And.intro ?_ ?_; (focus first | exact plainV_wf rfl | (refine plainV_wf (plain_agg ?_); simp only [go_sem]; done) | (simp only [wfV, wf1, wfC, List.length_append, List.length_cons, List.length_nil]; omega))))))); (focus (first | rfl | (refine plain_agg ?_; simp only [go_sem]; done) | (refine plain_two ?_ ?_ <;> first | rfl | (refine plain_agg ?_; simp only [go_sem]; done)))))))) | refine WA_seq (WA_region ?_) | refine WA_region ?_ | refine WA_exit ?_); try simp (maxSteps := 1000000) (disch := first | omega | rfl | decide | (simp only [List.length_cons, List.length_nil, List.length_append, Bs_length, Is_length, Vs_length, Bl_length, Il_length] <;> omega)) only [go_sem, Nat.reduceAdd, Int.reduceAdd, Int.reduceSub, Int.reduceMul, Bool.not_true, Bool.not_false, blen_done, hmw, haw, yieldA_at 5 27]) | refine WA_seq ?_ | refine WA_block ?_ | (refine WA_skip ?_; try simp only [go_sem]) | (refine WA_ret ?_; try simp only [go_sem]) | refine WA_ct rfl ?_ | refine WA_cf rfl ?_))
          (refine Drop_slots (by first | exact Nat.le_refl _ | simp) ?_; focus ((try simp only [JL_same, JL_J, JL_nil, Int.reduceAdd, Nat.sub_sub, Int.natCast_add, Int.natCast_one, Int.natCast_zero, Int.cast_ofNat_Int, Nat.add_zero, Bool.false_eq_true, if_false, if_true]); (try exact JL_refl _)))
      · have ht := trmS_no (m := m) (a := a) hm
        rw [ht, Int.add_zero]
        by_cases h3 : x &&& p = x
        · have h4 : ¬ y &&& q = y := fun h5 => hm ⟨h3, h5⟩
          (repeat (first | ((first | (refine And.intro ?_ ?_; focus (first | exact plain_agg (by simp only [go_sem]) | exact plain_two (by first | exact plain_agg (by simp only [go_sem]) | rfl) rfl | rfl)) | refine WA_seq (WA_region ?_) | refine WA_region ?_ | refine WA_exit ?_); try simp (maxSteps := 1000000) (disch := first | omega | rfl | decide | (simp only [List.length_cons, List.length_nil, List.length_append, Bs_length, Is_length, Vs_length, Bl_length, Il_length] <;> omega)) only [go_sem, Nat.reduceAdd, Int.reduceAdd, Int.reduceSub, Int.reduceMul, Bool.not_true, Bool.not_false, hax, hay, natne, decide_eq_true h3, decide_eq_false h4, Bool.not_true, Bool.not_false, yieldA_at 5 27]) | refine WA_seq ?_ | refine WA_block ?_ | (refine WA_skip ?_; try simp only [go_sem]) | (refine WA_ret ?_; try simp only [go_sem]) | refine WA_ct rfl ?_ | refine WA_cf rfl ?_))
          (refine Drop_slots (by first | exact Nat.le_refl _ | simp) ?_; focus ((try simp only [JL_same, JL_J, JL_nil, Int.reduceAdd, Nat.sub_sub, Int.natCast_add, Int.natCast_one, Int.natCast_zero, Int.cast_ofNat_Int, Nat.add_zero, Bool.false_eq_true, if_false, if_true]); (try exact JL_refl _)))
        · (repeat (first | ((first | (refine And.intro ?_ ?_; focus (first | exact plain_agg (by simp only [go_sem]) | exact plain_two (by first | exact plain_agg (by simp only [go_sem]) | rfl) rfl | rfl)) | refine WA_seq (WA_region ?_) | refine WA_region ?_ | refine WA_exit ?_); try simp (maxSteps := 1000000) (disch := first | omega | rfl | decide | (simp only [List.length_cons, List.length_nil, List.length_append, Bs_length, Is_length, Vs_length, Bl_length, Il_length] <;> omega)) only [go_sem, Nat.reduceAdd, Int.reduceAdd, Int.reduceSub, Int.reduceMul, Bool.not_true, Bool.not_false, hax, hay, natne, decide_eq_false h3, Bool.not_false, yieldA_at 5 27]) | refine WA_seq ?_ | refine WA_block ?_ | (refine WA_skip ?_; try simp only [go_sem]) | (refine WA_ret ?_; try simp only [go_sem]) | refine WA_ct rfl ?_ | refine WA_cf rfl ?_))
          (refine Drop_slots (by first | exact Nat.le_refl _ | simp) ?_; focus ((try simp only [JL_same, JL_J, JL_nil, Int.reduceAdd, Nat.sub_sub, Int.natCast_add, Int.natCast_one, Int.natCast_zero, Int.cast_ofNat_Int, Nat.add_zero, Bool.false_eq_true, if_false, if_true]); (try exact JL_refl _)))
    · (repeat (first | ((first | (refine And.intro ?_ ?_; focus (first | exact plain_agg (by simp only [go_sem]) | exact plain_two (by first | exact plain_agg (by simp only [go_sem]) | rfl) rfl | rfl)) | refine WA_seq (WA_region ?_) | refine WA_region ?_ | refine WA_exit ?_); try simp (maxSteps := 1000000) (disch := first | omega | rfl | decide | (simp only [List.length_cons, List.length_nil, List.length_append, Bs_length, Is_length, Vs_length, Bl_length, Il_length] <;> omega)) only [go_sem, Nat.reduceAdd, Int.reduceAdd, Int.reduceSub, Int.reduceMul, Bool.not_true, Bool.not_false, yieldA_at 5 27]) | refine WA_seq ?_ | refine WA_block ?_ | (refine WA_skip ?_; try simp only [go_sem]) | (refine WA_ret ?_; try simp only [go_sem]) | refine WA_ct rfl ?_ | refine WA_cf rfl ?_))
      (refine Drop_slots (by first | exact Nat.le_refl _ | simp) ?_; focus ((try simp only [JL_same, JL_J, JL_nil, Int.reduceAdd, Nat.sub_sub, Int.natCast_add, Int.natCast_one, Int.natCast_zero, Int.cast_ofNat_Int, Nat.add_zero, Bool.false_eq_true, if_false, if_true]); (try exact JL_refl _)))
  · (repeat (first | ((first | (refine And.intro ?_ ?_; focus (first | exact plain_agg (by simp only [go_sem]) | exact plain_two (by first | exact plain_agg (by simp only [go_sem]) | rfl) rfl | rfl)) | refine WA_seq (WA_region ?_) | refine WA_region ?_ | refine WA_exit ?_); try simp (maxSteps := 1000000) (disch := first | omega | rfl | decide | (simp only [List.length_cons, List.length_nil, List.length_append, Bs_length, Is_length, Vs_length, Bl_length, Il_length] <;> omega)) only [go_sem, Nat.reduceAdd, Int.reduceAdd, Int.reduceSub, Int.reduceMul, Bool.not_true, Bool.not_false, yieldA_at 5 27]) | refine WA_seq ?_ | refine WA_block ?_ | (refine WA_skip ?_; try simp only [go_sem]) | (refine WA_ret ?_; try simp only [go_sem]) | refine WA_ct rfl ?_ | refine WA_cf rfl ?_))
    ((first | refine ret_none (by first | exact .inr rfl | exact .inl rfl) ?_ | refine ret_same (by first | exact .inr rfl | exact .inl rfl) ?_ (by first | rfl | exact plain_agg (by simp only [go_sem]) | exact plain_two (by first | exact plain_agg (by simp only [go_sem]) | rfl) (by first | exact plain_agg (by simp only [go_sem]) | rfl)) | refine ret_full (by first | exact .inr rfl | exact .inl rfl) (by simp) ?_); simp (maxSteps := 1000000) (disch := first | omega | rfl | decide | (simp only [List.length_cons, List.length_nil, List.length_append, Bs_length, Is_length, Vs_length, Bl_length, Il_length] <;> omega)) only [go_sem, Nat.reduceAdd, Int.reduceAdd, Int.reduceSub, Int.reduceMul, Bool.not_true, Bool.not_false]; try rfl)

end Go.Proofs.Ytkgiocoiojdgfaa
/- Patterns: lists of those that one becomes. Plain. -/
namespace Go.Proofs.Ytkgiocoiojdgfaa
set_option linter.unusedSimpArgs false
set_option linter.unusedVariables false
set_option maxRecDepth 20000
set_option maxHeartbeats 1000000
open Go.Abs

theorem sumI_ge {f : Nat → Int} {k : Nat} : ∀ {n : Nat}, k < n → (∀ i, i < n → 0 ≤ f i) → f k ≤ sumI f n
  | 0, h, _ => absurd h (Nat.not_lt_zero k)
  | n + 1, h, hf => by
    unfold sumI
    by_cases e : k = n
    · subst e
      have := sumI_nonneg (f := f) (n := k) fun i hi => hf i (by omega)
      omega
    · have h1 := sumI_ge (f := f) (k := k) (n := n) (by omega) fun i hi => hf i (by omega)
      have h2 := hf n (by omega)
      omega
theorem sumB_ge {f : UInt8 → Int} (b : UInt8) (hf : ∀ c, 0 ≤ f c) : f b ≤ sumB f := by
  unfold sumB
  have := sumI_ge (f := fun i => f (UInt8.ofNat i)) (k := b.toNat) (n := 256) (u8_lt b) fun i _ => hf _
  simpa using this
/-- A weight of a column of its own is at most the sum. -/
theorem sT_ge {W : (Nat → UInt8) → Int} (hW : ∀ u, 0 ≤ W u) (hc : ∀ u w, (∀ t, t < 4 → u t = w t) → W u = W w) (u0 : Nat → UInt8) : ∀ k v, k ≤ 4 → (∀ t, t < 4 - k → v t = u0 t) → W u0 ≤ sT 15 k W v
  | 0, v, _, hv => by
    show W u0 ≤ W v
    rw [hc v u0 fun t ht => hv t (by omega)]
    exact Int.le_refl _
  | k + 1, v, hk, hv => by
    have h15 : (15 : Nat).testBit (3 - k) = true := by
      have : 3 - k = 0 ∨ 3 - k = 1 ∨ 3 - k = 2 ∨ 3 - k = 3 := by omega
      rcases this with e | e | e | e <;> rw [e] <;> rfl
    rw [sT_t h15]
    refine Int.le_trans (sT_ge hW hc u0 k (upd v (3 - k) (u0 (3 - k))) (by omega) fun t ht => ?_) (sumB_ge (f := fun b => sT 15 k W (upd v (3 - k) b)) (u0 (3 - k)) fun b => sT_nonneg hW k _)
    unfold upd
    split
    · rename_i e; rw [e]
    · exact hv t (by omega)
theorem supp_cong {u w : Nat → UInt8} (h : ∀ t, t < 4 → u t = w t) : supp u = supp w := by
  unfold supp; rw [h 0 (by omega), h 1 (by omega), h 2 (by omega), h 3 (by omega)]
/-- A column tells that its pattern becomes that of what it becomes. -/
theorem many_pos (m : Nat) (a u : Nat → UInt8) : 0 < manyF m a (supp u) (supp (D m a u)) := by
  have h := sT_ge (W := fun v => if supp v = supp u ∧ supp (D m a v) = supp (D m a u) then 1 else 0) (fun v => by split <;> decide) (fun v w hvw => by
    rw [supp_cong hvw, supp_cong (u := D m a v) (w := D m a w) fun t _ => D_cong hvw]) u 4 (fun _ => 0) (Nat.le_refl _) fun t ht => by omega
  rw [if_pos ⟨rfl, rfl⟩] at h
  exact h
/-- A column with just these places. -/
def colP (p : Nat) : Nat → UInt8 := fun t => if p.testBit t = true then 1 else 0
theorem col_supp : ∀ p, p < 16 → supp (colP p) = p := by decide +kernel
theorem many_ex (m : Nat) (a : Nat → UInt8) {p : Nat} (hp : p < 16) : ∃ q, q < 16 ∧ 0 < manyF m a p q := by
  have := many_pos m a (colP p)
  rw [col_supp p hp] at this
  exact ⟨_, supp_lt _, this⟩
/-- Those of the first k that a pattern becomes. -/
def patL (m : Nat) (a : Nat → UInt8) (p : Nat) : Nat → List Int
  | 0 => []
  | k + 1 => if 0 < manyF m a p k then patL m a p k ++ [(k : Int)] else patL m a p k
theorem patL_t {m : Nat} {a : Nat → UInt8} {p k : Nat} (h : 0 < manyF m a p k) : patL m a p (k + 1) = patL m a p k ++ [(k : Int)] := by rw [patL, if_pos h]
theorem patL_f {m : Nat} {a : Nat → UInt8} {p k : Nat} (h : ¬ 0 < manyF m a p k) : patL m a p (k + 1) = patL m a p k := by rw [patL, if_neg h]
theorem patL_le (m : Nat) (a : Nat → UInt8) (p : Nat) : ∀ k, (patL m a p k).length ≤ k
  | 0 => Nat.le_refl 0
  | k + 1 => by
    have := patL_le m a p k
    rw [patL]; split
    · rw [List.length_append]; simp; omega
    · omega
theorem patL_pos (m : Nat) (a : Nat → UInt8) {p q : Nat} (hq : 0 < manyF m a p q) : ∀ k, q < k → 0 < (patL m a p k).length
  | 0, h => absurd h (Nat.not_lt_zero q)
  | k + 1, h => by
    rw [patL]
    by_cases e : q = k
    · subst e; rw [if_pos hq, List.length_append]; simp
    · have := patL_pos m a hq k (by omega)
      split
      · rw [List.length_append]; omega
      · exact this
/-- All patterns' lists. -/
def patR (m : Nat) (a : Nat → UInt8) (p : Nat) : List Int := patL m a p 16
theorem patR_pos (m : Nat) (a : Nat → UInt8) {p : Nat} (hp : p < 16) : 0 < (patR m a p).length := by
  obtain ⟨q, hq, h⟩ := many_ex m a hp
  exact patL_pos m a h 16 hq
end Go.Proofs.Ytkgiocoiojdgfaa
/- IsCipher. -/
namespace Go.Proofs.Ytkgiocoiojdgfaa
set_option linter.unusedSimpArgs false
set_option linter.unusedVariables false
set_option maxRecDepth 20000
set_option maxHeartbeats 1000000
open Go.Abs

theorem cipI_ac (m r : Int) (bx mx pl : Nat → UInt8) (h : List Blk) : AC Try.prog 116 [.agg (Ci m bx mx pl r).toArray] h (.bool (cipB m bx mx pl r)) h := by
  have hr := inI_ac r 1 20
  cases hf : fieldB m.toNat
  · (refine AC_begin (fun _ _ => Try.call116 _ _) Try.func116 rfl Try.ntmps116 Try.results116 (fun hwf => ?_); simp only [List.length_cons, List.length_nil, Nat.reduceAdd, Nat.reduceSub, List.replicate, List.cons_append, List.nil_append])
    (repeat (first | ((first | (refine And.intro ?_ ?_; focus (first | exact plain_agg (by simp only [go_sem]) | exact plain_two (by first | exact plain_agg (by simp only [go_sem]) | rfl) rfl | rfl)) | ((first | with_reducible apply callB_i | with_reducible apply callK_intro | with_reducible apply callQ_i); (focus (first | assumption | (with_reducible apply isField_ac <;> (first | assumption | rfl | (simp (disch := omega) only [go_sem]; first | done | rfl) | omega | decide | (simp; done))))); (try (focus (refine WP.mk ?_ ?_; (focus ((repeat (first | exact trivial | (refine And.intro ?_ ?_; (focus first | exact plainV_wf rfl | (refine plainV_wf (plain_agg ?_); simp only [go_sem]; done) | (simp only [wfV, wf1, wfC, List.length_append, List.length_cons, List.length_nil]; omega))))))); (focus (first | rfl | (refine plain_agg ?_; simp only [go_sem]; done) | (refine plain_two ?_ ?_ <;> first | rfl | (refine plain_agg ?_; simp only [go_sem]; done)))))))) | refine WA_seq (WA_region ?_) | refine WA_region ?_ | refine WA_exit ?_); try simp (maxSteps := 1000000) (disch := first | omega | rfl | decide | (simp only [List.length_cons, List.length_nil, List.length_append, Bs_length, Is_length, Vs_length, Bl_length, Il_length] <;> omega)) only [go_sem, Nat.reduceAdd, Int.reduceAdd, Int.reduceSub, Int.reduceMul, Bool.not_true, Bool.not_false, hf, yieldA_at 3 6, yieldA_at 8 11, yieldA_at 15 18, yieldA_at 20 23]) | refine WA_seq ?_ | refine WA_block ?_ | (refine WA_skip ?_; try simp only [go_sem]) | (refine WA_ret ?_; try simp only [go_sem]) | refine WA_ct rfl ?_ | refine WA_cf rfl ?_))
    ((first | refine ret_none (by first | exact .inr rfl | exact .inl rfl) ?_ | refine ret_same (by first | exact .inr rfl | exact .inl rfl) ?_ (by first | rfl | exact plain_agg (by simp only [go_sem]) | exact plain_two (by first | exact plain_agg (by simp only [go_sem]) | rfl) (by first | exact plain_agg (by simp only [go_sem]) | rfl)) | refine ret_full (by first | exact .inr rfl | exact .inl rfl) (by simp) ?_); simp (maxSteps := 1000000) (disch := first | omega | rfl | decide | (simp only [List.length_cons, List.length_nil, List.length_append, Bs_length, Is_length, Vs_length, Bl_length, Il_length] <;> omega)) only [go_sem, Nat.reduceAdd, Int.reduceAdd, Int.reduceSub, Int.reduceMul, Bool.not_true, Bool.not_false, cipB, hf, Bool.false_and]; try rfl)
  · obtain ⟨p, rfl, hp, h0, h1⟩ := fieldB_nat hf
    rw [Int.toNat_natCast] at hf
    cases hb : boxOk bx
    · (refine AC_begin (fun _ _ => Try.call116 _ _) Try.func116 rfl Try.ntmps116 Try.results116 (fun hwf => ?_); simp only [List.length_cons, List.length_nil, Nat.reduceAdd, Nat.reduceSub, List.replicate, List.cons_append, List.nil_append])
      (repeat (first | ((first | (refine And.intro ?_ ?_; focus (first | exact plain_agg (by simp only [go_sem]) | exact plain_two (by first | exact plain_agg (by simp only [go_sem]) | rfl) rfl | rfl)) | ((first | with_reducible apply callB_i | with_reducible apply callK_intro | with_reducible apply callQ_i); (focus (first | assumption | ((first | with_reducible apply isField_ac | with_reducible apply boxI_ac) <;> (first | assumption | rfl | (simp (disch := omega) only [go_sem]; first | done | rfl) | omega | decide | (simp; done))))); (try (focus (refine WP.mk ?_ ?_; (focus ((repeat (first | exact trivial | (refine And.intro ?_ ?_; (focus first | exact plainV_wf rfl | (refine plainV_wf (plain_agg ?_); simp only [go_sem]; done) | (simp only [wfV, wf1, wfC, List.length_append, List.length_cons, List.length_nil]; omega))))))); (focus (first | rfl | (refine plain_agg ?_; simp only [go_sem]; done) | (refine plain_two ?_ ?_ <;> first | rfl | (refine plain_agg ?_; simp only [go_sem]; done)))))))) | refine WA_seq (WA_region ?_) | refine WA_region ?_ | refine WA_exit ?_); try simp (maxSteps := 1000000) (disch := first | omega | rfl | decide | (simp only [List.length_cons, List.length_nil, List.length_append, Bs_length, Is_length, Vs_length, Bl_length, Il_length] <;> omega)) only [go_sem, Nat.reduceAdd, Int.reduceAdd, Int.reduceSub, Int.reduceMul, Bool.not_true, Bool.not_false, hf, hb, yieldA_at 3 6, yieldA_at 8 11, yieldA_at 15 18, yieldA_at 20 23]) | refine WA_seq ?_ | refine WA_block ?_ | (refine WA_skip ?_; try simp only [go_sem]) | (refine WA_ret ?_; try simp only [go_sem]) | refine WA_ct rfl ?_ | refine WA_cf rfl ?_))
      ((first | refine ret_none (by first | exact .inr rfl | exact .inl rfl) ?_ | refine ret_same (by first | exact .inr rfl | exact .inl rfl) ?_ (by first | rfl | exact plain_agg (by simp only [go_sem]) | exact plain_two (by first | exact plain_agg (by simp only [go_sem]) | rfl) (by first | exact plain_agg (by simp only [go_sem]) | rfl)) | refine ret_full (by first | exact .inr rfl | exact .inl rfl) (by simp) ?_); simp (maxSteps := 1000000) (disch := first | omega | rfl | decide | (simp only [List.length_cons, List.length_nil, List.length_append, Bs_length, Is_length, Vs_length, Bl_length, Il_length] <;> omega)) only [go_sem, Nat.reduceAdd, Int.reduceAdd, Int.reduceSub, Int.reduceMul, Bool.not_true, Bool.not_false, cipB, Int.toNat_natCast, hf, hb, Bool.false_and, Bool.and_false]; try rfl)
    · cases hd : detF p mx != 0
      · (refine AC_begin (fun _ _ => Try.call116 _ _) Try.func116 rfl Try.ntmps116 Try.results116 (fun hwf => ?_); simp only [List.length_cons, List.length_nil, Nat.reduceAdd, Nat.reduceSub, List.replicate, List.cons_append, List.nil_append])
        (repeat (first | ((first | (refine And.intro ?_ ?_; focus (first | exact plain_agg (by simp only [go_sem]) | exact plain_two (by first | exact plain_agg (by simp only [go_sem]) | rfl) rfl | rfl)) | ((first | with_reducible apply callB_i | with_reducible apply callK_intro | with_reducible apply callQ_i); (focus (first | assumption | ((first | with_reducible apply isField_ac | with_reducible apply boxI_ac | with_reducible apply isInvI_ac h0 h1) <;> (first | assumption | rfl | (simp (disch := omega) only [go_sem]; first | done | rfl) | omega | decide | (simp; done))))); (try (focus (refine WP.mk ?_ ?_; (focus ((repeat (first | exact trivial | (refine And.intro ?_ ?_; (focus first | exact plainV_wf rfl | (refine plainV_wf (plain_agg ?_); simp only [go_sem]; done) | (simp only [wfV, wf1, wfC, List.length_append, List.length_cons, List.length_nil]; omega))))))); (focus (first | rfl | (refine plain_agg ?_; simp only [go_sem]; done) | (refine plain_two ?_ ?_ <;> first | rfl | (refine plain_agg ?_; simp only [go_sem]; done)))))))) | refine WA_seq (WA_region ?_) | refine WA_region ?_ | refine WA_exit ?_); try simp (maxSteps := 1000000) (disch := first | omega | rfl | decide | (simp only [List.length_cons, List.length_nil, List.length_append, Bs_length, Is_length, Vs_length, Bl_length, Il_length] <;> omega)) only [go_sem, Nat.reduceAdd, Int.reduceAdd, Int.reduceSub, Int.reduceMul, Bool.not_true, Bool.not_false, hf, hb, hd, yieldA_at 3 6, yieldA_at 8 11, yieldA_at 15 18, yieldA_at 20 23]) | refine WA_seq ?_ | refine WA_block ?_ | (refine WA_skip ?_; try simp only [go_sem]) | (refine WA_ret ?_; try simp only [go_sem]) | refine WA_ct rfl ?_ | refine WA_cf rfl ?_))
        ((first | refine ret_none (by first | exact .inr rfl | exact .inl rfl) ?_ | refine ret_same (by first | exact .inr rfl | exact .inl rfl) ?_ (by first | rfl | exact plain_agg (by simp only [go_sem]) | exact plain_two (by first | exact plain_agg (by simp only [go_sem]) | rfl) (by first | exact plain_agg (by simp only [go_sem]) | rfl)) | refine ret_full (by first | exact .inr rfl | exact .inl rfl) (by simp) ?_); simp (maxSteps := 1000000) (disch := first | omega | rfl | decide | (simp only [List.length_cons, List.length_nil, List.length_append, Bs_length, Is_length, Vs_length, Bl_length, Il_length] <;> omega)) only [go_sem, Nat.reduceAdd, Int.reduceAdd, Int.reduceSub, Int.reduceMul, Bool.not_true, Bool.not_false, cipB, Int.toNat_natCast, hf, hb, hd, Bool.false_and, Bool.and_false]; try rfl)
      · cases hi : plOk pl
        · (refine AC_begin (fun _ _ => Try.call116 _ _) Try.func116 rfl Try.ntmps116 Try.results116 (fun hwf => ?_); simp only [List.length_cons, List.length_nil, Nat.reduceAdd, Nat.reduceSub, List.replicate, List.cons_append, List.nil_append])
          (repeat (first | ((first | (refine And.intro ?_ ?_; focus (first | exact plain_agg (by simp only [go_sem]) | exact plain_two (by first | exact plain_agg (by simp only [go_sem]) | rfl) rfl | rfl)) | ((first | with_reducible apply callB_i | with_reducible apply callK_intro | with_reducible apply callQ_i); (focus (first | assumption | ((first | with_reducible apply isField_ac | with_reducible apply boxI_ac | with_reducible apply isInvI_ac h0 h1 | with_reducible apply permI_ac) <;> (first | assumption | rfl | (simp (disch := omega) only [go_sem]; first | done | rfl) | omega | decide | (simp; done))))); (try (focus (refine WP.mk ?_ ?_; (focus ((repeat (first | exact trivial | (refine And.intro ?_ ?_; (focus first | exact plainV_wf rfl | (refine plainV_wf (plain_agg ?_); simp only [go_sem]; done) | (simp only [wfV, wf1, wfC, List.length_append, List.length_cons, List.length_nil]; omega))))))); (focus (first | rfl | (refine plain_agg ?_; simp only [go_sem]; done) | (refine plain_two ?_ ?_ <;> first | rfl | (refine plain_agg ?_; simp only [go_sem]; done)))))))) | refine WA_seq (WA_region ?_) | refine WA_region ?_ | refine WA_exit ?_); try simp (maxSteps := 1000000) (disch := first | omega | rfl | decide | (simp only [List.length_cons, List.length_nil, List.length_append, Bs_length, Is_length, Vs_length, Bl_length, Il_length] <;> omega)) only [go_sem, Nat.reduceAdd, Int.reduceAdd, Int.reduceSub, Int.reduceMul, Bool.not_true, Bool.not_false, hf, hb, hd, hi, yieldA_at 3 6, yieldA_at 8 11, yieldA_at 15 18, yieldA_at 20 23]) | refine WA_seq ?_ | refine WA_block ?_ | (refine WA_skip ?_; try simp only [go_sem]) | (refine WA_ret ?_; try simp only [go_sem]) | refine WA_ct rfl ?_ | refine WA_cf rfl ?_))
          ((first | refine ret_none (by first | exact .inr rfl | exact .inl rfl) ?_ | refine ret_same (by first | exact .inr rfl | exact .inl rfl) ?_ (by first | rfl | exact plain_agg (by simp only [go_sem]) | exact plain_two (by first | exact plain_agg (by simp only [go_sem]) | rfl) (by first | exact plain_agg (by simp only [go_sem]) | rfl)) | refine ret_full (by first | exact .inr rfl | exact .inl rfl) (by simp) ?_); simp (maxSteps := 1000000) (disch := first | omega | rfl | decide | (simp only [List.length_cons, List.length_nil, List.length_append, Bs_length, Is_length, Vs_length, Bl_length, Il_length] <;> omega)) only [go_sem, Nat.reduceAdd, Int.reduceAdd, Int.reduceSub, Int.reduceMul, Bool.not_true, Bool.not_false, cipB, Int.toNat_natCast, hf, hb, hd, hi, Bool.false_and, Bool.and_false]; try rfl)
        · (refine AC_begin (fun _ _ => Try.call116 _ _) Try.func116 rfl Try.ntmps116 Try.results116 (fun hwf => ?_); simp only [List.length_cons, List.length_nil, Nat.reduceAdd, Nat.reduceSub, List.replicate, List.cons_append, List.nil_append])
          (repeat (first | ((first | (refine And.intro ?_ ?_; focus (first | exact plain_agg (by simp only [go_sem]) | exact plain_two (by first | exact plain_agg (by simp only [go_sem]) | rfl) rfl | rfl)) | ((first | with_reducible apply callB_i | with_reducible apply callK_intro | with_reducible apply callQ_i); (focus (first | assumption | ((first | with_reducible apply isField_ac | with_reducible apply boxI_ac | with_reducible apply isInvI_ac h0 h1 | with_reducible apply permI_ac | with_reducible apply hr) <;> (first | assumption | rfl | (simp (disch := omega) only [go_sem]; first | done | rfl) | omega | decide | (simp; done))))); (try (focus (refine WP.mk ?_ ?_; (focus ((repeat (first | exact trivial | (refine And.intro ?_ ?_; (focus first | exact plainV_wf rfl | (refine plainV_wf (plain_agg ?_); simp only [go_sem]; done) | (simp only [wfV, wf1, wfC, List.length_append, List.length_cons, List.length_nil]; omega))))))); (focus (first | rfl | (refine plain_agg ?_; simp only [go_sem]; done) | (refine plain_two ?_ ?_ <;> first | rfl | (refine plain_agg ?_; simp only [go_sem]; done)))))))) | refine WA_seq (WA_region ?_) | refine WA_region ?_ | refine WA_exit ?_); try simp (maxSteps := 1000000) (disch := first | omega | rfl | decide | (simp only [List.length_cons, List.length_nil, List.length_append, Bs_length, Is_length, Vs_length, Bl_length, Il_length] <;> omega)) only [go_sem, Nat.reduceAdd, Int.reduceAdd, Int.reduceSub, Int.reduceMul, Bool.not_true, Bool.not_false, hf, hb, hd, hi, yieldA_at 3 6, yieldA_at 8 11, yieldA_at 15 18, yieldA_at 20 23]) | refine WA_seq ?_ | refine WA_block ?_ | (refine WA_skip ?_; try simp only [go_sem]) | (refine WA_ret ?_; try simp only [go_sem]) | refine WA_ct rfl ?_ | refine WA_cf rfl ?_))
          ((first | refine ret_none (by first | exact .inr rfl | exact .inl rfl) ?_ | refine ret_same (by first | exact .inr rfl | exact .inl rfl) ?_ (by first | rfl | exact plain_agg (by simp only [go_sem]) | exact plain_two (by first | exact plain_agg (by simp only [go_sem]) | rfl) (by first | exact plain_agg (by simp only [go_sem]) | rfl)) | refine ret_full (by first | exact .inr rfl | exact .inl rfl) (by simp) ?_); simp (maxSteps := 1000000) (disch := first | omega | rfl | decide | (simp only [List.length_cons, List.length_nil, List.length_append, Bs_length, Is_length, Vs_length, Bl_length, Il_length] <;> omega)) only [go_sem, Nat.reduceAdd, Int.reduceAdd, Int.reduceSub, Int.reduceMul, Bool.not_true, Bool.not_false, cipB, Int.toNat_natCast, hf, hb, hd, hi, Bool.true_and]; try rfl)

theorem cipS_ac (m r : Int) (bx mx pl : Nat → UInt8) (h : List Blk) : AC Try.prog 111 [.agg (Ci m bx mx pl r).toArray] h (.bool (cipB m bx mx pl r)) h := by
  have hr := inS_ac r 1 20
  cases hf : fieldB m.toNat
  · (refine AC_begin (fun _ _ => Try.call111 _ _) Try.func111 rfl Try.ntmps111 Try.results111 (fun hwf => ?_); simp only [List.length_cons, List.length_nil, Nat.reduceAdd, Nat.reduceSub, List.replicate, List.cons_append, List.nil_append])
    (repeat (first | ((first | (refine And.intro ?_ ?_; focus (first | exact plain_agg (by simp only [go_sem]) | exact plain_two (by first | exact plain_agg (by simp only [go_sem]) | rfl) rfl | rfl)) | ((first | with_reducible apply callB_i | with_reducible apply callK_intro | with_reducible apply callQ_i); (focus (first | assumption | (with_reducible apply fieldS_ac <;> (first | assumption | rfl | (simp (disch := omega) only [go_sem]; first | done | rfl) | omega | decide | (simp; done))))); (try (focus (refine WP.mk ?_ ?_; (focus ((repeat (first | exact trivial | (refine And.intro ?_ ?_; (focus first | exact plainV_wf rfl | (refine plainV_wf (plain_agg ?_); simp only [go_sem]; done) | (simp only [wfV, wf1, wfC, List.length_append, List.length_cons, List.length_nil]; omega))))))); (focus (first | rfl | (refine plain_agg ?_; simp only [go_sem]; done) | (refine plain_two ?_ ?_ <;> first | rfl | (refine plain_agg ?_; simp only [go_sem]; done)))))))) | refine WA_seq (WA_region ?_) | refine WA_region ?_ | refine WA_exit ?_); try simp (maxSteps := 1000000) (disch := first | omega | rfl | decide | (simp only [List.length_cons, List.length_nil, List.length_append, Bs_length, Is_length, Vs_length, Bl_length, Il_length] <;> omega)) only [go_sem, Nat.reduceAdd, Int.reduceAdd, Int.reduceSub, Int.reduceMul, Bool.not_true, Bool.not_false, hf, yieldA_at 4 9, yieldA_at 10 15, yieldA_at 16 21]) | refine WA_seq ?_ | refine WA_block ?_ | (refine WA_skip ?_; try simp only [go_sem]) | (refine WA_ret ?_; try simp only [go_sem]) | refine WA_ct rfl ?_ | refine WA_cf rfl ?_))
    ((first | refine ret_none (by first | exact .inr rfl | exact .inl rfl) ?_ | refine ret_same (by first | exact .inr rfl | exact .inl rfl) ?_ (by first | rfl | exact plain_agg (by simp only [go_sem]) | exact plain_two (by first | exact plain_agg (by simp only [go_sem]) | rfl) (by first | exact plain_agg (by simp only [go_sem]) | rfl)) | refine ret_full (by first | exact .inr rfl | exact .inl rfl) (by simp) ?_); simp (maxSteps := 1000000) (disch := first | omega | rfl | decide | (simp only [List.length_cons, List.length_nil, List.length_append, Bs_length, Is_length, Vs_length, Bl_length, Il_length] <;> omega)) only [go_sem, Nat.reduceAdd, Int.reduceAdd, Int.reduceSub, Int.reduceMul, Bool.not_true, Bool.not_false, cipB, hf, Bool.false_and]; try rfl)
  · obtain ⟨p, rfl, hp, h0, h1⟩ := fieldB_nat hf
    rw [Int.toNat_natCast] at hf
    cases hb : boxOk bx
    · (refine AC_begin (fun _ _ => Try.call111 _ _) Try.func111 rfl Try.ntmps111 Try.results111 (fun hwf => ?_); simp only [List.length_cons, List.length_nil, Nat.reduceAdd, Nat.reduceSub, List.replicate, List.cons_append, List.nil_append])
      (repeat (first | ((first | (refine And.intro ?_ ?_; focus (first | exact plain_agg (by simp only [go_sem]) | exact plain_two (by first | exact plain_agg (by simp only [go_sem]) | rfl) rfl | rfl)) | ((first | with_reducible apply callB_i | with_reducible apply callK_intro | with_reducible apply callQ_i); (focus (first | assumption | ((first | with_reducible apply fieldS_ac | with_reducible apply boxS_ac) <;> (first | assumption | rfl | (simp (disch := omega) only [go_sem]; first | done | rfl) | omega | decide | (simp; done))))); (try (focus (refine WP.mk ?_ ?_; (focus ((repeat (first | exact trivial | (refine And.intro ?_ ?_; (focus first | exact plainV_wf rfl | (refine plainV_wf (plain_agg ?_); simp only [go_sem]; done) | (simp only [wfV, wf1, wfC, List.length_append, List.length_cons, List.length_nil]; omega))))))); (focus (first | rfl | (refine plain_agg ?_; simp only [go_sem]; done) | (refine plain_two ?_ ?_ <;> first | rfl | (refine plain_agg ?_; simp only [go_sem]; done)))))))) | refine WA_seq (WA_region ?_) | refine WA_region ?_ | refine WA_exit ?_); try simp (maxSteps := 1000000) (disch := first | omega | rfl | decide | (simp only [List.length_cons, List.length_nil, List.length_append, Bs_length, Is_length, Vs_length, Bl_length, Il_length] <;> omega)) only [go_sem, Nat.reduceAdd, Int.reduceAdd, Int.reduceSub, Int.reduceMul, Bool.not_true, Bool.not_false, hf, hb, yieldA_at 4 9, yieldA_at 10 15, yieldA_at 16 21]) | refine WA_seq ?_ | refine WA_block ?_ | (refine WA_skip ?_; try simp only [go_sem]) | (refine WA_ret ?_; try simp only [go_sem]) | refine WA_ct rfl ?_ | refine WA_cf rfl ?_))
      ((first | refine ret_none (by first | exact .inr rfl | exact .inl rfl) ?_ | refine ret_same (by first | exact .inr rfl | exact .inl rfl) ?_ (by first | rfl | exact plain_agg (by simp only [go_sem]) | exact plain_two (by first | exact plain_agg (by simp only [go_sem]) | rfl) (by first | exact plain_agg (by simp only [go_sem]) | rfl)) | refine ret_full (by first | exact .inr rfl | exact .inl rfl) (by simp) ?_); simp (maxSteps := 1000000) (disch := first | omega | rfl | decide | (simp only [List.length_cons, List.length_nil, List.length_append, Bs_length, Is_length, Vs_length, Bl_length, Il_length] <;> omega)) only [go_sem, Nat.reduceAdd, Int.reduceAdd, Int.reduceSub, Int.reduceMul, Bool.not_true, Bool.not_false, cipB, Int.toNat_natCast, hf, hb, Bool.false_and, Bool.and_false]; try rfl)
    · cases hi : plOk pl
      · (refine AC_begin (fun _ _ => Try.call111 _ _) Try.func111 rfl Try.ntmps111 Try.results111 (fun hwf => ?_); simp only [List.length_cons, List.length_nil, Nat.reduceAdd, Nat.reduceSub, List.replicate, List.cons_append, List.nil_append])
        (repeat (first | ((first | (refine And.intro ?_ ?_; focus (first | exact plain_agg (by simp only [go_sem]) | exact plain_two (by first | exact plain_agg (by simp only [go_sem]) | rfl) rfl | rfl)) | ((first | with_reducible apply callB_i | with_reducible apply callK_intro | with_reducible apply callQ_i); (focus (first | assumption | ((first | with_reducible apply fieldS_ac | with_reducible apply boxS_ac | with_reducible apply permS_ac) <;> (first | assumption | rfl | (simp (disch := omega) only [go_sem]; first | done | rfl) | omega | decide | (simp; done))))); (try (focus (refine WP.mk ?_ ?_; (focus ((repeat (first | exact trivial | (refine And.intro ?_ ?_; (focus first | exact plainV_wf rfl | (refine plainV_wf (plain_agg ?_); simp only [go_sem]; done) | (simp only [wfV, wf1, wfC, List.length_append, List.length_cons, List.length_nil]; omega))))))); (focus (first | rfl | (refine plain_agg ?_; simp only [go_sem]; done) | (refine plain_two ?_ ?_ <;> first | rfl | (refine plain_agg ?_; simp only [go_sem]; done)))))))) | refine WA_seq (WA_region ?_) | refine WA_region ?_ | refine WA_exit ?_); try simp (maxSteps := 1000000) (disch := first | omega | rfl | decide | (simp only [List.length_cons, List.length_nil, List.length_append, Bs_length, Is_length, Vs_length, Bl_length, Il_length] <;> omega)) only [go_sem, Nat.reduceAdd, Int.reduceAdd, Int.reduceSub, Int.reduceMul, Bool.not_true, Bool.not_false, hf, hb, hi, yieldA_at 4 9, yieldA_at 10 15, yieldA_at 16 21]) | refine WA_seq ?_ | refine WA_block ?_ | (refine WA_skip ?_; try simp only [go_sem]) | (refine WA_ret ?_; try simp only [go_sem]) | refine WA_ct rfl ?_ | refine WA_cf rfl ?_))
        ((first | refine ret_none (by first | exact .inr rfl | exact .inl rfl) ?_ | refine ret_same (by first | exact .inr rfl | exact .inl rfl) ?_ (by first | rfl | exact plain_agg (by simp only [go_sem]) | exact plain_two (by first | exact plain_agg (by simp only [go_sem]) | rfl) (by first | exact plain_agg (by simp only [go_sem]) | rfl)) | refine ret_full (by first | exact .inr rfl | exact .inl rfl) (by simp) ?_); simp (maxSteps := 1000000) (disch := first | omega | rfl | decide | (simp only [List.length_cons, List.length_nil, List.length_append, Bs_length, Is_length, Vs_length, Bl_length, Il_length] <;> omega)) only [go_sem, Nat.reduceAdd, Int.reduceAdd, Int.reduceSub, Int.reduceMul, Bool.not_true, Bool.not_false, cipB, Int.toNat_natCast, hf, hb, hi, Bool.false_and, Bool.and_false]; try rfl)
      · cases hR : inR r 1 20 <;> rw [hR] at hr
        · (refine AC_begin (fun _ _ => Try.call111 _ _) Try.func111 rfl Try.ntmps111 Try.results111 (fun hwf => ?_); simp only [List.length_cons, List.length_nil, Nat.reduceAdd, Nat.reduceSub, List.replicate, List.cons_append, List.nil_append])
          (repeat (first | ((first | (refine And.intro ?_ ?_; focus (first | exact plain_agg (by simp only [go_sem]) | exact plain_two (by first | exact plain_agg (by simp only [go_sem]) | rfl) rfl | rfl)) | ((first | with_reducible apply callB_i | with_reducible apply callK_intro | with_reducible apply callQ_i); (focus (first | assumption | ((first | with_reducible apply fieldS_ac | with_reducible apply boxS_ac | with_reducible apply permS_ac | with_reducible apply hr) <;> (first | assumption | rfl | (simp (disch := omega) only [go_sem]; first | done | rfl) | omega | decide | (simp; done))))); (try (focus (refine WP.mk ?_ ?_; (focus ((repeat (first | exact trivial | (refine And.intro ?_ ?_; (focus first | exact plainV_wf rfl | (refine plainV_wf (plain_agg ?_); simp only [go_sem]; done) | (simp only [wfV, wf1, wfC, List.length_append, List.length_cons, List.length_nil]; omega))))))); (focus (first | rfl | (refine plain_agg ?_; simp only [go_sem]; done) | (refine plain_two ?_ ?_ <;> first | rfl | (refine plain_agg ?_; simp only [go_sem]; done)))))))) | refine WA_seq (WA_region ?_) | refine WA_region ?_ | refine WA_exit ?_); try simp (maxSteps := 1000000) (disch := first | omega | rfl | decide | (simp only [List.length_cons, List.length_nil, List.length_append, Bs_length, Is_length, Vs_length, Bl_length, Il_length] <;> omega)) only [go_sem, Nat.reduceAdd, Int.reduceAdd, Int.reduceSub, Int.reduceMul, Bool.not_true, Bool.not_false, hf, hb, hi, yieldA_at 4 9, yieldA_at 10 15, yieldA_at 16 21]) | refine WA_seq ?_ | refine WA_block ?_ | (refine WA_skip ?_; try simp only [go_sem]) | (refine WA_ret ?_; try simp only [go_sem]) | refine WA_ct rfl ?_ | refine WA_cf rfl ?_))
          ((first | refine ret_none (by first | exact .inr rfl | exact .inl rfl) ?_ | refine ret_same (by first | exact .inr rfl | exact .inl rfl) ?_ (by first | rfl | exact plain_agg (by simp only [go_sem]) | exact plain_two (by first | exact plain_agg (by simp only [go_sem]) | rfl) (by first | exact plain_agg (by simp only [go_sem]) | rfl)) | refine ret_full (by first | exact .inr rfl | exact .inl rfl) (by simp) ?_); simp (maxSteps := 1000000) (disch := first | omega | rfl | decide | (simp only [List.length_cons, List.length_nil, List.length_append, Bs_length, Is_length, Vs_length, Bl_length, Il_length] <;> omega)) only [go_sem, Nat.reduceAdd, Int.reduceAdd, Int.reduceSub, Int.reduceMul, Bool.not_true, Bool.not_false, cipB, Int.toNat_natCast, hf, hb, hi, hR, Bool.true_and, Bool.and_false]; try rfl)
        · (refine AC_begin (fun _ _ => Try.call111 _ _) Try.func111 rfl Try.ntmps111 Try.results111 (fun hwf => ?_); simp only [List.length_cons, List.length_nil, Nat.reduceAdd, Nat.reduceSub, List.replicate, List.cons_append, List.nil_append])
          (repeat (first | ((first | (refine And.intro ?_ ?_; focus (first | exact plain_agg (by simp only [go_sem]) | exact plain_two (by first | exact plain_agg (by simp only [go_sem]) | rfl) rfl | rfl)) | ((first | with_reducible apply callB_i | with_reducible apply callK_intro | with_reducible apply callQ_i); (focus (first | assumption | ((first | with_reducible apply fieldS_ac | with_reducible apply boxS_ac | with_reducible apply permS_ac | with_reducible apply hr | with_reducible apply inverseS_ac h0 h1) <;> (first | assumption | rfl | (simp (disch := omega) only [go_sem]; first | done | rfl) | omega | decide | (simp; done))))); (try (focus (refine WP.mk ?_ ?_; (focus ((repeat (first | exact trivial | (refine And.intro ?_ ?_; (focus first | exact plainV_wf rfl | (refine plainV_wf (plain_agg ?_); simp only [go_sem]; done) | (simp only [wfV, wf1, wfC, List.length_append, List.length_cons, List.length_nil]; omega))))))); (focus (first | rfl | (refine plain_agg ?_; simp only [go_sem]; done) | (refine plain_two ?_ ?_ <;> first | rfl | (refine plain_agg ?_; simp only [go_sem]; done)))))))) | refine WA_seq (WA_region ?_) | refine WA_region ?_ | refine WA_exit ?_); try simp (maxSteps := 1000000) (disch := first | omega | rfl | decide | (simp only [List.length_cons, List.length_nil, List.length_append, Bs_length, Is_length, Vs_length, Bl_length, Il_length] <;> omega)) only [go_sem, Nat.reduceAdd, Int.reduceAdd, Int.reduceSub, Int.reduceMul, Bool.not_true, Bool.not_false, hf, hb, hi, yieldA_at 4 9, yieldA_at 10 15, yieldA_at 16 21]) | refine WA_seq ?_ | refine WA_block ?_ | (refine WA_skip ?_; try simp only [go_sem]) | (refine WA_ret ?_; try simp only [go_sem]) | refine WA_ct rfl ?_ | refine WA_cf rfl ?_))
          ((first | refine ret_none (by first | exact .inr rfl | exact .inl rfl) ?_ | refine ret_same (by first | exact .inr rfl | exact .inl rfl) ?_ (by first | rfl | exact plain_agg (by simp only [go_sem]) | exact plain_two (by first | exact plain_agg (by simp only [go_sem]) | rfl) (by first | exact plain_agg (by simp only [go_sem]) | rfl)) | refine ret_full (by first | exact .inr rfl | exact .inl rfl) (by simp) ?_); simp (maxSteps := 1000000) (disch := first | omega | rfl | decide | (simp only [List.length_cons, List.length_nil, List.length_append, Bs_length, Is_length, Vs_length, Bl_length, Il_length] <;> omega)) only [go_sem, Nat.reduceAdd, Int.reduceAdd, Int.reduceSub, Int.reduceMul, Bool.not_true, Bool.not_false, cipB, Int.toNat_natCast, hf, hb, hi, hR, Bool.true_and, Bool.and_true]; try rfl)

end Go.Proofs.Ytkgiocoiojdgfaa
/- PatternsOf: the reference. -/
namespace Go.Proofs.Ytkgiocoiojdgfaa
set_option linter.unusedSimpArgs false
set_option linter.unusedVariables false
set_option maxRecDepth 20000
set_option maxHeartbeats 1000000
open Go.Abs

/-- The rows: the lists of the patterns. -/
def paBl (m : Nat) (a : Nat → UInt8) : Nat → Blk := fun p => ⟨Il (patR m a p), true⟩
def paLen (m : Nat) (a : Nat → UInt8) : Nat → Nat := fun p => (patR m a p).length
theorem paBl_plain (m : Nat) (a : Nat → UInt8) (j : Nat) : (paBl m a j).cells.all plainC = true := by
  unfold paBl
  generalize patR m a j = l
  exact Il_plain l
theorem paBl_is (m : Nat) (a : Nat → UInt8) (p : Nat) : paBl m a p = ⟨Il (patL m a p 16), true⟩ := rfl
theorem paLen_is (m : Nat) (a : Nat → UInt8) (p : Nat) : paLen m a p = (patL m a p 16).length := rfl
theorem patL_zero (m : Nat) (a : Nat → UInt8) (p : Nat) : patL m a p 0 = [] := rfl
/-- An element of a row. -/
def paF (m : Nat) (a : Nat → UInt8) (p i : Nat) : Int := (patR m a p).getD i 0
theorem Il_Is (l : List Int) : Il l = Is l.length fun i => l.getD i 0 := by
  unfold Il Is
  refine List.ext_getElem? fun i => ?_
  rw [List.getElem?_map, List.getElem?_map]
  rcases Nat.lt_or_ge i l.length with h | h
  · rw [List.getElem?_eq_getElem h, List.getElem?_range h, Option.map_some, Option.map_some]
    show some (Value.int .i64 l[i]) = some (Value.int .i64 (l.getD i 0))
    rw [List.getD_eq_getElem?_getD, List.getElem?_eq_getElem h]; rfl
  · rw [List.getElem?_eq_none h, List.getElem?_eq_none (by simpa using h)]; rfl
theorem paBl_Is (m : Nat) (a : Nat → UInt8) (p : Nat) : paBl m a p = ⟨Is (paLen m a p) (paF m a p), true⟩ := by
  show (⟨Il (patR m a p), true⟩ : Blk) = _
  rw [Il_Is]; rfl
/-- What a function that makes a list of lists leaves. -/
structure GrV (h h' : List Blk) (b N : Nat) (g len : Nat → Nat) (F : Nat → Nat → Int) : Prop where
  old : ∀ (i : Nat) (x : Blk), h[i]? = some x → h'[i]? = some x
  app : ∃ L, h' = h ++ L
  sp : h'[b]? = some ⟨Vs N fun j => sl (g j) 0 (len j) 1, true⟩
  row : ∀ j, j < N → h'[g j]? = some ⟨Is (len j) (F j), true⟩
  inj : ∀ i j, i < N → j < N → g i = g j → i = j
  ne : ∀ j, j < N → g j ≠ b
  newB : h.length ≤ b
  newG : ∀ j, h.length ≤ g j
attribute [local irreducible] paBl paLen patL patR manyF vsp
theorem patS_ac {m : Nat} (h0 : 256 ≤ m) (h1 : m < 512) (hf : fieldB m = true) (bx mx pl : Nat → UInt8) (r : Int) (h : List Blk) : AC Try.prog 112 [.agg (Ci m bx mx pl r).toArray] h (sl ((rowsH h (paBl m mx) 16).length + 1) 0 16 1)
    (rowsH h (paBl m mx) 16 ++ [⟨Ci m bx mx pl r, true⟩, ⟨Vs 16 (vsp h.length (paLen m mx)), true⟩]) := by
  (refine AC_begin (fun _ _ => Try.call112 _ _) Try.func112 rfl Try.ntmps112 Try.results112 (fun hwf => ?_); simp only [List.length_cons, List.length_nil, Nat.reduceAdd, Nat.reduceSub, List.replicate, List.cons_append, List.nil_append])
  (repeat (first | ((first | (refine And.intro ?_ ?_; focus (first | exact plain_agg (by simp only [go_sem]) | exact plain_two (by first | exact plain_agg (by simp only [go_sem]) | rfl) rfl | rfl)) | refine WA_seq (WA_region ?_) | refine WA_region ?_ | refine WA_exit ?_); try simp (maxSteps := 1000000) (disch := first | omega | rfl | decide | (simp only [List.length_cons, List.length_nil, List.length_append, Bs_length, Is_length, Vs_length, Bl_length, Il_length] <;> omega)) only [go_sem, Nat.reduceAdd, Int.reduceAdd, Int.reduceSub, Int.reduceMul, Bool.not_true, Bool.not_false]) | refine WA_seq ?_ | refine WA_block ?_ | (refine WA_skip ?_; try simp only [go_sem]) | (refine WA_ret ?_; try simp only [go_sem]) | refine WA_ct rfl ?_ | refine WA_cf rfl ?_))
  refine WA_forH (fun k => [(1, pt (rowsH h (paBl m mx) k).length 0), (3, sl ((rowsH h (paBl m mx) k).length + 1) 0 k 1), (4, .int .i64 k), (5, J), (6, J), (7, J), (8, J), (9, J), (10, J), (11, J), (12, J), (13, J), (14, J), (15, J), (16, J), (17, J), (18, J), (19, J), (20, J), (21, J), (22, J), (23, J), (24, J), (25, J), (26, J), (27, J), (28, J), (29, J), (30, J), (31, J)]) (fun k => rowsH h (paBl m mx) k ++ [⟨Ci m bx mx pl r, true⟩, ⟨Vs k (vsp h.length (paLen m mx)), true⟩]) (16) ?_ ?_ ?_ <;> (try simp only [patT_cons, patT_nil, patL_cons, patL_nil, list_set_zero, list_set_succ, blk_set_zero, blk_set_succ])
  · rw [rowsH_zero]
    (refine Drop_slots (by first | exact Nat.le_refl _ | simp) ?_; focus ((try simp only [JL_same, JL_J, JL_nil, Int.reduceAdd, Nat.sub_sub, Int.natCast_add, Int.natCast_one, Int.natCast_zero, Int.cast_ofNat_Int, Nat.add_zero, Bool.false_eq_true, if_false, if_true]); (try exact JL_refl _)))
  · intro p hp
    have hll := rowsH_len h (paBl m mx) p
    have hwj := rowsH_wf (k := p) hwf (paBl_plain m mx)
    (repeat (first | ((first | (refine And.intro ?_ ?_; focus (first | exact plain_agg (by simp only [go_sem]) | exact plain_two (by first | exact plain_agg (by simp only [go_sem]) | rfl) rfl | rfl)) | refine WA_seq (WA_region ?_) | refine WA_region ?_ | refine WA_exit ?_); try simp (maxSteps := 1000000) (disch := first | omega | rfl | decide | (simp only [List.length_cons, List.length_nil, List.length_append, Bs_length, Is_length, Vs_length, Bl_length, Il_length] <;> omega)) only [go_sem, Nat.reduceAdd, Int.reduceAdd, Int.reduceSub, Int.reduceMul, Bool.not_true, Bool.not_false]) | refine WA_seq ?_ | refine WA_block ?_ | (refine WA_skip ?_; try simp only [go_sem]) | (refine WA_ret ?_; try simp only [go_sem]) | refine WA_ct rfl ?_ | refine WA_cf rfl ?_))
    refine WA_forP (fun k => [(5, sl ((rowsH h (paBl m mx) p).length + 2) 0 (patL m mx p k).length 1), (6, .int .i64 k), (12, J), (13, J), (14, J), (15, J), (16, J), (17, J), (18, J), (19, J), (20, J), (21, J), (22, J), (23, J), (24, J), (25, J), (26, J), (27, J)]) (fun k => [(2, ⟨Il (patL m mx p k), true⟩)]) (16) ?_ ?_ ?_ <;> (try simp only [patT_cons, patT_nil, patL_cons, patL_nil, list_set_zero, list_set_succ, blk_set_zero, blk_set_succ])
    · rw [patL_zero]
      (refine Drop_slots (by first | exact Nat.le_refl _ | (rw [List.length_append, rowsH_len]; omega)) ?_; focus ((try simp only [JL_same, JL_J, JL_nil, Int.reduceAdd, Nat.sub_sub, Int.natCast_add, Int.natCast_one, Int.natCast_zero, Int.cast_ofNat_Int, Nat.add_zero, Bool.false_eq_true, if_false, if_true, List.length_nil]); (try exact JL_refl _)))
    · intro q hq
      have hb := becS_ac h0 h1 hf mx hp hq
      have hle := patL_le m mx p q
      by_cases hpos : 0 < manyF m mx p q
      · rw [decide_eq_true hpos] at hb
        rw [patL_t hpos]
        generalize patL m mx p q = l at *
        (repeat (first | ((first | (refine And.intro ?_ ?_; focus (first | exact plain_agg (by simp only [go_sem]) | exact plain_two (by first | exact plain_agg (by simp only [go_sem]) | rfl) rfl | rfl)) | ((first | with_reducible apply callB_i | with_reducible apply callK_intro | with_reducible apply callQ_i); (focus (first | assumption | (with_reducible apply hb <;> (first | assumption | rfl | (simp (disch := omega) only [go_sem]; first | done | rfl) | omega | decide | (simp; done))))); (try (focus (refine WP.mk ?_ ?_; (focus ((repeat (first | exact trivial | (refine And.intro ?_ ?_; (focus first | exact plainV_wf rfl | (refine plainV_wf (plain_agg ?_); simp only [go_sem]; done) | (simp only [wfV, wf1, wfC, List.length_append, List.length_cons, List.length_nil]; omega))))))); (focus (first | rfl | (refine plain_agg ?_; simp only [go_sem]; done) | (refine plain_two ?_ ?_ <;> first | rfl | (refine plain_agg ?_; simp only [go_sem]; done)))))))) | refine WA_seq (WA_region ?_) | refine WA_region ?_ | refine WA_exit ?_); try simp (maxSteps := 1000000) (disch := first | omega | rfl | decide | (simp only [List.length_cons, List.length_nil, List.length_append, Bs_length, Is_length, Vs_length, Bl_length, Il_length] <;> omega)) only [go_sem, Nat.reduceAdd, Int.reduceAdd, Int.reduceSub, Int.reduceMul, Bool.not_true, Bool.not_false, lit1W, sub1, Il_snoc]) | refine WA_seq ?_ | refine WA_block ?_ | (refine WA_skip ?_; try simp only [go_sem]) | (refine WA_ret ?_; try simp only [go_sem]) | refine WA_ct rfl ?_ | refine WA_cf rfl ?_))
        (refine Drop_gc [0, 1, 4] (by first | omega | first | assumption | omega | (simp only [List.length_append, List.length_cons, List.length_nil, List.length_replicate]; omega)) (by assumption) (by decide) ?_ ?_; (focus (repeat (first | exact trivial | (refine And.intro ⟨_, rfl, ?_⟩ ?_; (focus first | (refine Fit_plain ?_; simp only [go_sem, List.all_append, List.all_cons, List.all_nil, Bool.and_self]; done) | exact Fit_nil rfl | exact Fit_dead | (refine Fit_eq ?_ ?_; (focus simp only [go_sem, List.all_append, List.all_cons, List.all_nil, Bool.and_self]); (focus (first | rfl | (simp only [Int.natCast_add, Int.natCast_one, Int.natCast_zero, Int.cast_ofNat_Int, Nat.add_zero, List.length_append, List.length_cons, List.length_nil]; done) | (simp only [Int.natCast_add, Int.natCast_one, Int.natCast_zero, Int.cast_ofNat_Int, Nat.add_zero, List.length_append, List.length_cons, List.length_nil]; rfl)))) | exact Fit_Ts | (refine Fit_spineV0 ?_ ?_; (focus omega); (focus (simp only [List.length_append, List.length_cons, List.length_nil]; omega))) | (refine Fit_spineVS ?_ ?_ ?_ ?_; (focus first | omega | assumption); (focus rfl); (focus first | rfl | assumption | omega); (focus (simp only [List.length_append, List.length_cons, List.length_nil]; omega)))))))); (focus (repeat (first | exact JR_nil | refine JR_J ?_ | (refine JR_plain ?_ ?_; (focus first | rfl | (refine plain_agg ?_; simp only [go_sem, List.all_append, List.all_cons, List.all_nil, Bool.and_self]; done))) | ((first | refine JR_pt ?_ ?_ ?_ | refine JR_sl ?_ ?_ ?_); (focus first | (rw [rhoF_new0]; rfl) | (rw [rhoF_new]; rfl) | (rw [rhoF_old]; first | assumption | omega)); (focus first | assumption | omega | (simp only [List.length_append, List.length_cons, List.length_nil, List.length_replicate]; omega))) | (refine JR_plain' ?_ ?_ ?_; (focus first | rfl | (refine plain_agg ?_; simp only [go_sem, List.all_append, List.all_cons, List.all_nil, Bool.and_self]; done)); (focus (first | rfl | (simp only [Int.natCast_add, Int.natCast_one, Int.natCast_zero, Int.cast_ofNat_Int, Nat.add_zero, List.length_append, List.length_cons, List.length_nil]; done) | (simp only [Int.natCast_add, Int.natCast_one, Int.natCast_zero, Int.cast_ofNat_Int, Nat.add_zero, List.length_append, List.length_cons, List.length_nil]; rfl)))) | (refine JR_sl' ?_ ?_ ?_ ?_; (focus first | (rw [rhoF_new0]; rfl) | (rw [rhoF_new]; rfl) | (rw [rhoF_old]; first | assumption | omega)); (focus first | assumption | omega | (simp only [List.length_append, List.length_cons, List.length_nil, List.length_replicate]; omega)); (focus first | rfl | omega | (first | rfl | (simp only [Int.natCast_add, Int.natCast_one, Int.natCast_zero, Int.cast_ofNat_Int, Nat.add_zero, List.length_append, List.length_cons, List.length_nil]; done) | (simp only [Int.natCast_add, Int.natCast_one, Int.natCast_zero, Int.cast_ofNat_Int, Nat.add_zero, List.length_append, List.length_cons, List.length_nil]; rfl))))))))
      · rw [decide_eq_false hpos] at hb
        rw [patL_f hpos]
        (repeat (first | ((first | (refine And.intro ?_ ?_; focus (first | exact plain_agg (by simp only [go_sem]) | exact plain_two (by first | exact plain_agg (by simp only [go_sem]) | rfl) rfl | rfl)) | ((first | with_reducible apply callB_i | with_reducible apply callK_intro | with_reducible apply callQ_i); (focus (first | assumption | (with_reducible apply hb <;> (first | assumption | rfl | (simp (disch := omega) only [go_sem]; first | done | rfl) | omega | decide | (simp; done))))); (try (focus (refine WP.mk ?_ ?_; (focus ((repeat (first | exact trivial | (refine And.intro ?_ ?_; (focus first | exact plainV_wf rfl | (refine plainV_wf (plain_agg ?_); simp only [go_sem]; done) | (simp only [wfV, wf1, wfC, List.length_append, List.length_cons, List.length_nil]; omega))))))); (focus (first | rfl | (refine plain_agg ?_; simp only [go_sem]; done) | (refine plain_two ?_ ?_ <;> first | rfl | (refine plain_agg ?_; simp only [go_sem]; done)))))))) | refine WA_seq (WA_region ?_) | refine WA_region ?_ | refine WA_exit ?_); try simp (maxSteps := 1000000) (disch := first | omega | rfl | decide | (simp only [List.length_cons, List.length_nil, List.length_append, Bs_length, Is_length, Vs_length, Bl_length, Il_length] <;> omega)) only [go_sem, Nat.reduceAdd, Int.reduceAdd, Int.reduceSub, Int.reduceMul, Bool.not_true, Bool.not_false]) | refine WA_seq ?_ | refine WA_block ?_ | (refine WA_skip ?_; try simp only [go_sem]) | (refine WA_ret ?_; try simp only [go_sem]) | refine WA_ct rfl ?_ | refine WA_cf rfl ?_))
        (refine Drop_slots (by first | exact Nat.le_refl _ | (rw [List.length_append, rowsH_len]; omega)) ?_; focus ((try simp only [JL_same, JL_J, JL_nil, Int.reduceAdd, Nat.sub_sub, Int.natCast_add, Int.natCast_one, Int.natCast_zero, Int.cast_ofNat_Int, Nat.add_zero, Bool.false_eq_true, if_false, if_true]); (try exact JL_refl _)))
    · have e1 := paBl_is m mx p
      have e2 := paLen_is m mx p
      have hle := patL_le m mx p 16
      rw [rowsH_app, rowsH_lenS, e1]
      simp only [Nat.add_assoc, Nat.reduceAdd]
      generalize patL m mx p 16 = l at *
      (repeat (first | ((first | (refine And.intro ?_ ?_; focus (first | exact plain_agg (by simp only [go_sem]) | exact plain_two (by first | exact plain_agg (by simp only [go_sem]) | rfl) rfl | rfl)) | refine WA_seq (WA_region ?_) | refine WA_region ?_ | refine WA_exit ?_); try simp (maxSteps := 1000000) (disch := first | omega | rfl | decide | (simp only [List.length_cons, List.length_nil, List.length_append, Bs_length, Is_length, Vs_length, Bl_length, Il_length] <;> omega)) only [go_sem, Nat.reduceAdd, Int.reduceAdd, Int.reduceSub, Int.reduceMul, Bool.not_true, Bool.not_false, lit1W, sub1]) | refine WA_seq ?_ | refine WA_block ?_ | (refine WA_skip ?_; try simp only [go_sem]) | (refine WA_ret ?_; try simp only [go_sem]) | refine WA_ct rfl ?_ | refine WA_cf rfl ?_))
      (refine Drop_gc [2, 0, 4] (by first | omega | first | assumption | omega | (simp only [List.length_append, List.length_cons, List.length_nil, List.length_replicate]; omega)) (by assumption) (by decide) ?_ ?_; (focus (repeat (first | exact trivial | (refine And.intro ⟨_, rfl, ?_⟩ ?_; (focus first | (refine Fit_plain ?_; simp only [go_sem, List.all_append, List.all_cons, List.all_nil, Bool.and_self]; done) | exact Fit_nil rfl | exact Fit_dead | (refine Fit_eq ?_ ?_; (focus simp only [go_sem, List.all_append, List.all_cons, List.all_nil, Bool.and_self]); (focus (first | rfl | (simp only [Int.natCast_add, Int.natCast_one, Int.natCast_zero, Int.cast_ofNat_Int, Nat.add_zero]; done) | (simp only [Int.natCast_add, Int.natCast_one, Int.natCast_zero, Int.cast_ofNat_Int, Nat.add_zero]; rfl)))) | exact Fit_Ts | (refine Fit_spineV0 ?_ ?_; (focus omega); (focus (simp only [List.length_append, List.length_cons, List.length_nil]; omega))) | (refine Fit_spineVS ?_ ?_ ?_ ?_; (focus first | omega | assumption); (focus rfl); (focus first | rfl | assumption | omega); (focus (simp only [List.length_append, List.length_cons, List.length_nil]; omega)))))))); (focus (repeat (first | exact JR_nil | refine JR_J ?_ | (refine JR_plain ?_ ?_; (focus first | rfl | (refine plain_agg ?_; simp only [go_sem, List.all_append, List.all_cons, List.all_nil, Bool.and_self]; done))) | ((first | refine JR_pt ?_ ?_ ?_ | refine JR_sl ?_ ?_ ?_); (focus first | (rw [rhoF_new0]; rfl) | (rw [rhoF_new]; rfl) | (rw [rhoF_old]; first | assumption | omega)); (focus first | assumption | omega | (simp only [List.length_append, List.length_cons, List.length_nil, List.length_replicate]; omega))) | (refine JR_plain' ?_ ?_ ?_; (focus first | rfl | (refine plain_agg ?_; simp only [go_sem, List.all_append, List.all_cons, List.all_nil, Bool.and_self]; done)); (focus (first | rfl | (simp only [Int.natCast_add, Int.natCast_one, Int.natCast_zero, Int.cast_ofNat_Int, Nat.add_zero]; done) | (simp only [Int.natCast_add, Int.natCast_one, Int.natCast_zero, Int.cast_ofNat_Int, Nat.add_zero]; rfl)))) | (refine JR_sl' ?_ ?_ ?_ ?_; (focus first | (rw [rhoF_new0]; rfl) | (rw [rhoF_new]; rfl) | (rw [rhoF_old]; first | assumption | omega)); (focus first | assumption | omega | (simp only [List.length_append, List.length_cons, List.length_nil, List.length_replicate]; omega)); (focus first | rfl | omega | (first | rfl | (simp only [Int.natCast_add, Int.natCast_one, Int.natCast_zero, Int.cast_ofNat_Int, Nat.add_zero]; done) | (simp only [Int.natCast_add, Int.natCast_one, Int.natCast_zero, Int.cast_ofNat_Int, Nat.add_zero]; rfl))))))))
  · (repeat (first | ((first | (refine And.intro ?_ ?_; focus (first | exact plain_agg (by simp only [go_sem]) | exact plain_two (by first | exact plain_agg (by simp only [go_sem]) | rfl) rfl | rfl)) | refine WA_seq (WA_region ?_) | refine WA_region ?_ | refine WA_exit ?_); try simp (maxSteps := 1000000) (disch := first | omega | rfl | decide | (simp only [List.length_cons, List.length_nil, List.length_append, Bs_length, Is_length, Vs_length, Bl_length, Il_length] <;> omega)) only [go_sem, Nat.reduceAdd, Int.reduceAdd, Int.reduceSub, Int.reduceMul, Bool.not_true, Bool.not_false]) | refine WA_seq ?_ | refine WA_block ?_ | (refine WA_skip ?_; try simp only [go_sem]) | (refine WA_ret ?_; try simp only [go_sem]) | refine WA_ct rfl ?_ | refine WA_cf rfl ?_))
    rw [rowsH_cut]
    ((first | refine ret_none (by first | exact .inr rfl | exact .inl rfl) ?_ | refine ret_same (by first | exact .inr rfl | exact .inl rfl) ?_ (by first | rfl | exact plain_agg (by simp only [go_sem]) | exact plain_two (by first | exact plain_agg (by simp only [go_sem]) | rfl) (by first | exact plain_agg (by simp only [go_sem]) | rfl)) | refine ret_full (by first | exact .inr rfl | exact .inl rfl) (by simp) ?_); simp (maxSteps := 1000000) (disch := first | omega | rfl | decide | (simp only [List.length_cons, List.length_nil, List.length_append, Bs_length, Is_length, Vs_length, Bl_length, Il_length] <;> omega)) only [go_sem, Nat.reduceAdd, Int.reduceAdd, Int.reduceSub, Int.reduceMul, Bool.not_true, Bool.not_false]; try rfl)

end Go.Proofs.Ytkgiocoiojdgfaa
/- Draws for the law on matrices. -/
namespace Go.Proofs.Ytkgiocoiojdgfaa
set_option linter.unusedSimpArgs false
set_option linter.unusedVariables false
set_option maxRecDepth 20000
set_option maxHeartbeats 1000000
open Go.Abs

theorem one_shl {i : Nat} (h : i ≤ 60) : IntKind.i64.wrap (1 * 2 ^ min i 64) = ((1 <<< i : Nat) : Int) := by
  rw [Nat.min_eq_left (by omega), Int.one_mul, pow_cast, Nat.one_shiftLeft]
  refine wrap_N ?_
  exact Nat.lt_of_lt_of_le (Nat.pow_lt_pow_right (n := 61) (by omega) (by omega)) (by omega)
/-- The list that grows. -/
structure RbD where
  M : List Blk
  b : Nat
  v : Nat → Int
end Go.Proofs.Ytkgiocoiojdgfaa
/- Patterns: the program. -/
namespace Go.Proofs.Ytkgiocoiojdgfaa
set_option linter.unusedSimpArgs false
set_option linter.unusedVariables false
set_option maxRecDepth 20000
set_option maxHeartbeats 1000000
open Go.Abs

/-- All free places. -/
def frF (m : Nat) (a : Nat → UInt8) : Nat → Int := fun n => ((freeN m a (n / 16) (n % 16) : Nat) : Int)
theorem frF_at {m : Nat} {a : Nat → UInt8} {R C : Nat} (hC : C < 16) : frF m a (R * 16 + C) = ((freeN m a R C : Nat) : Int) := by
  unfold frF; rw [show (R * 16 + C) / 16 = R by omega, show (R * 16 + C) % 16 = C by omega]
theorem updPre {α : Type} {k : Nat} {f g : Nat → α} {x : α} (h : f k = x) : upd (pre k f g) k x = pre (k + 1) f g := by rw [← h]; exact upd_pre k f g
theorem andn_eq : ∀ x, x < 16 → ∀ p, p < 16 → (bits .andNot .i64 ((x : Nat) : Int) ((p : Nat) : Int) != 0) = !decide (x &&& p = x) := by decide +kernel
theorem andn_or : ∀ q, q < 16 → ∀ y, y < 16 → y &&& q = y → bits .or .i64 (bits .andNot .i64 15 ((q : Nat) : Int)) ((y : Nat) : Int) = ((15 ^^^ (q ^^^ y) : Nat) : Int) := by decide +kernel
theorem sgn_par : ∀ u, u < 16 → ∀ w, w < 16 → sgn u * sgn w = if (cn u 4 + cn w 4) % 2 = 1 then -1 else 1 := by decide +kernel
theorem shl8 {f : Nat} (hf : f ≤ 4) : IntKind.i64.wrap (1 * 2 ^ min (8 * f) 64) = ((256 ^ f : Nat) : Int) := by
  rw [one_shl (show 8 * f ≤ 60 by omega), Nat.one_shiftLeft, Nat.pow_mul]
theorem shl8' {f : Nat} (hf : f ≤ 4) : 1 <<< (8 * f) = 256 ^ f := by rw [Nat.one_shiftLeft, Nat.pow_mul]
/-- A summand. -/
def trmI (m : Nat) (a : Nat → UInt8) (p q x y : Nat) : Int := (if x &&& p = x then sgn (p ^^^ x) else 0) * (if y &&& q = y then sgn y else 0) * (256 : Int) ^ freeN m a (15 ^^^ (q ^^^ y)) x
theorem trmI_le (m : Nat) (a : Nat → UInt8) (p q x y : Nat) : -(4294967296 : Int) ≤ trmI m a p q x y ∧ trmI m a p q x y ≤ 4294967296 := by
  have h := free_4 m a (15 ^^^ (q ^^^ y)) x
  unfold trmI
  rw [pow_castN]
  generalize 256 ^ freeN m a (15 ^^^ (q ^^^ y)) x = V at *
  rcases sgn_le (p ^^^ x) with h1 | h1 <;> rcases sgn_le y with h2 | h2 <;> rw [h1, h2] <;> (split <;> split <;> simp <;> omega)
theorem trmI_no {m : Nat} {a : Nat → UInt8} {p q x y : Nat} (h : ¬ (x &&& p = x ∧ y &&& q = y)) : trmI m a p q x y = 0 := by
  unfold trmI
  by_cases h1 : x &&& p = x
  · rw [if_neg (fun h2 => h ⟨h1, h2⟩), Int.mul_zero, Int.zero_mul]
  · rw [if_neg h1, Int.zero_mul, Int.zero_mul]
theorem trmI_yes {m : Nat} {a : Nat → UInt8} {p q x y : Nat} (hp : p ^^^ x < 16) (hy : y < 16) (h1 : x &&& p = x) (h2 : y &&& q = y) : trmI m a p q x y = (if (cn (p ^^^ x) 4 + cn y 4) % 2 = 1 then -1 else 1) * ((256 ^ freeN m a (15 ^^^ (q ^^^ y)) x : Nat) : Int) := by
  unfold trmI; rw [if_pos h1, if_pos h2, pow_castN, sgn_par _ hp _ hy]
theorem rowI_le (m : Nat) (a : Nat → UInt8) (p q x k : Nat) : -((k : Int) * 4294967296) ≤ sumI (trmI m a p q x) k ∧ sumI (trmI m a p q x) k ≤ (k : Int) * 4294967296 := sumI_le fun i _ => trmI_le m a p q x i
theorem allI_le (m : Nat) (a : Nat → UInt8) (p q k : Nat) : -((k : Int) * 68719476736) ≤ sumI (fun x => sumI (trmI m a p q x) 16) k ∧ sumI (fun x => sumI (trmI m a p q x) 16) k ≤ (k : Int) * 68719476736 :=
  sumI_le fun i _ => by have := rowI_le m a p q i 16; omega
theorem appR_nil {h : List Blk} {z by' n : Nat} {news : List Value} (hn : n ≠ 0) (hr : n * by' ≤ 140737488355328) : appR h z by' (.slice none 0 0) (some (n, news)) = some (sl h.length 0 n z, h ++ [⟨news, true⟩]) := by
  show appendTo h z by' (.slice none 0 0) n news = _
  unfold appendTo
  simp only []
  rw [if_neg hn, if_pos (show roomOk n by' from hr)]
/-- The lists so far, as slices. -/
def outV (b0 : Nat) (len : Nat → Nat) (p b n : Nat) : Nat → Value := fun j => if j < p then sl (b0 + j) 0 (len j) 1 else if j = p ∧ n ≠ 0 then sl b 0 n 1 else .slice none 0 0
theorem outV_at (b0 : Nat) (len : Nat → Nat) (p b n : Nat) : outV b0 len p b n p = if n ≠ 0 then sl b 0 n 1 else .slice none 0 0 := by
  unfold outV
  rw [if_neg (Nat.lt_irrefl p)]
  by_cases h : n ≠ 0
  · rw [if_pos ⟨rfl, h⟩, if_pos h]
  · rw [if_neg fun x => h x.2, if_neg h]
theorem outV_set (b0 : Nat) (len : Nat → Nat) (p b n b' n' : Nat) (hn : n' ≠ 0) : upd (outV b0 len p b n) p (sl b' 0 n' 1) = outV b0 len p b' n' := by
  funext j; unfold upd outV
  by_cases h : j = p
  · subst h; rw [if_pos rfl, if_neg (Nat.lt_irrefl j), if_pos ⟨rfl, hn⟩]
  · rw [if_neg h]
    by_cases h2 : j < p
    · rw [if_pos h2, if_pos h2]
    · rw [if_neg h2, if_neg h2, if_neg fun x => h x.1, if_neg fun x => h x.1]
theorem outV_next (b0 : Nat) (len : Nat → Nat) (p b : Nat) : outV b0 len p (b0 + p) (len p) = outV b0 len (p + 1) b 0 ∨ len p = 0 := by
  by_cases hz : len p = 0
  · exact .inr hz
  · left
    funext j; unfold outV
    by_cases h : j < p
    · rw [if_pos h, if_pos (by omega)]
    · rw [if_neg h]
      by_cases h2 : j = p
      · subst h2; rw [if_pos ⟨rfl, hz⟩, if_pos (by omega)]
      · rw [if_neg fun x => h2 x.1, if_neg (by omega), if_neg fun x => x.2 rfl]
theorem outV_zero (b0 : Nat) (len : Nat → Nat) (p b b' : Nat) : outV b0 len p b 0 = outV b0 len p b' 0 := by
  funext j; unfold outV
  by_cases h : j < p
  · rw [if_pos h, if_pos h]
  · rw [if_neg h, if_neg h, if_neg fun x => x.2 rfl, if_neg fun x => x.2 rfl]
theorem outV_start (b0 : Nat) (len : Nat → Nat) (b : Nat) : outV b0 len 0 b 0 = fun _ => .slice none 0 0 := by
  funext j; unfold outV
  rw [if_neg (Nat.not_lt_zero j), if_neg fun x => x.2 rfl]
/-- The row under way takes another block. -/
theorem Fit_outV {N n' b0 p n i0 : Nat} {len : Nat → Nat} {r : List Nat} (hN : N = b0 + p) (hp : p < 16) (hn : N + i0 < n') {b : Nat} (hb : b = N + r.getD i0 0) : Fit N r n' ⟨Vs 16 (outV b0 len p b n), true⟩ ⟨Vs 16 (outV b0 len p (N + i0) n), true⟩ := by
  refine Fit_ren ?_ (fun h => h) ?_
  · show Vs 16 _ = (Vs 16 _).map (renC N r)
    unfold Vs
    rw [List.map_map]
    refine List.map_congr_left fun j hj => ?_
    have := List.mem_range.1 hj
    show outV b0 len p b n j = renC N r (outV b0 len p (N + i0) n j)
    unfold outV
    by_cases h1 : j < p
    · rw [if_pos h1, if_pos h1]
      show _ = Value.slice (some (renA N r ⟨b0 + j, 0, none⟩)) (len j) 1
      unfold renA
      rw [rhoF_old (by show b0 + j < N; omega)]
    · rw [if_neg h1, if_neg h1]
      by_cases h2 : j = p ∧ n ≠ 0
      · rw [if_pos h2, if_pos h2, hb]
        show _ = Value.slice (some (renA N r ⟨N + i0, 0, none⟩)) n 1
        unfold renA
        rw [rhoF_new]
      · rw [if_neg h2, if_neg h2]; rfl
  · intro c hc
    obtain ⟨j, hj, rfl⟩ := List.mem_map.1 (show c ∈ (List.range 16).map _ from hc)
    have := List.mem_range.1 hj
    unfold outV
    split
    · show b0 + j < n'; omega
    · split
      · show N + i0 < n'; exact hn
      · trivial
end Go.Proofs.Ytkgiocoiojdgfaa
/- Patterns: the program's walk. -/
namespace Go.Proofs.Ytkgiocoiojdgfaa
set_option linter.unusedSimpArgs false
set_option linter.unusedVariables false
set_option maxRecDepth 20000
set_option maxHeartbeats 1000000
open Go.Abs

/-- The row under way. -/
def ptl (l : List Int) : List Blk := if l = [] then [] else [⟨Il l, true⟩]
theorem ptl_nil : ptl [] = [] := rfl
theorem ptl_cons {l : List Int} (h : l ≠ []) : ptl l = [⟨Il l, true⟩] := if_neg h
theorem rowC_part {m : Nat} (mx : Nat → UInt8) {i j rk : Nat} (hj : j < 16) (h : freeN m mx i j = cn j 4 - rk) : upd (pre (i * 16 + j) (frF m mx) fun _ => 0) (i * 16 + j) ((cn j 4 - rk : Nat) : Int) = pre (i * 16 + j + 1) (frF m mx) fun _ => 0 := updPre (by rw [frF_at hj, h])
theorem parI (n : Nat) : (((n % 2 : Nat) : Int) == 1) = decide (n % 2 = 1) := by
  by_cases h : n % 2 = 1
  · rw [h]; rfl
  · rw [decide_eq_false h, beq_eq_false_iff_ne]; omega
theorem parN (n : Nat) : (n % 2 == 1) = decide (n % 2 = 1) := by
  by_cases h : n % 2 = 1
  · rw [h]; rfl
  · rw [decide_eq_false h, beq_eq_false_iff_ne]; exact h
theorem many_T {m : Nat} (h0 : 256 ≤ m) (h1 : m < 512) (hf : fieldB m = true) (a : Nat → UInt8) {p q : Nat} (hp : p < 16) (hq : q < 16) : sumI (fun x => sumI (trmI m a p q x) 16) 16 = manyF m a p q := many_I h0 h1 hf a hp hq
theorem patL_ne (m : Nat) (a : Nat → UInt8) {p : Nat} (hp : p < 16) : patL m a p 16 ≠ [] := fun e => by
  have h : 0 < (patL m a p 16).length := patR_pos m a hp
  rw [e] at h; exact absurd h (by decide)
theorem Fit_Vnil {N n' : Nat} {r : List Nat} : Fit N r n' ⟨Vs 16 fun _ => .slice none 0 0, true⟩ ⟨Vs 16 fun _ => .slice none 0 0, true⟩ := Fit_plain (by decide)
theorem outV_end (b0 : Nat) (len : Nat → Nat) (b : Nat) : Vs 16 (outV b0 len 16 b 0) = Vs 16 (vsp b0 len) := by
  unfold Vs
  refine List.map_congr_left fun j hj => ?_
  have := List.mem_range.1 hj
  unfold outV vsp
  rw [if_pos this]
theorem loadV (f : Nat → Value) (b : Bool) : loadRow (some ⟨Vs 16 f, b⟩) 0 16 = some (.agg (Vs 16 f).toArray) := by
  unfold loadRow
  simp only [Vs_length, Vs_sub_all]
  rfl
attribute [local irreducible] paBl paLen patL patR manyF vsp outV freeN frF ptl trmI
set_option maxHeartbeats 8000000 in
theorem patI_ac {m : Nat} (h0 : 256 ≤ m) (h1 : m < 512) (hf : fieldB m = true) (mx : Nat → UInt8) (h : List Blk) : AC Try.prog 117 [.int .i64 m, .agg (Bs 16 mx).toArray] h (.agg (Vs 16 (vsp h.length (paLen m mx))).toArray)
    (rowsH h (paBl m mx) 16 ++ [⟨Bs 16 mx, true⟩, ⟨Vs 16 (vsp h.length (paLen m mx)), true⟩, ⟨Is 256 (frF m mx), true⟩, ⟨Vs 16 (vsp h.length (paLen m mx)), true⟩]) := by
  (refine AC_begin (fun _ _ => Try.call117 _ _) Try.func117 rfl Try.ntmps117 Try.results117 (fun hwf => ?_); simp only [List.length_cons, List.length_nil, Nat.reduceAdd, Nat.reduceSub, List.replicate, List.cons_append, List.nil_append])
  (repeat (first | ((first | (refine And.intro ?_ ?_; focus (first | exact plain_agg (by simp only [go_sem]) | exact plain_two (by first | exact plain_agg (by simp only [go_sem]) | rfl) rfl | rfl)) | refine WA_seq (WA_region ?_) | refine WA_region ?_ | refine WA_exit ?_); try simp (maxSteps := 1000000) (disch := first | omega | rfl | decide | (simp only [List.length_cons, List.length_nil, List.length_append, Bs_length, Is_length, Vs_length, Bl_length, Il_length] <;> omega)) only [go_sem, Nat.reduceAdd, Int.reduceAdd, Int.reduceSub, Int.reduceMul, Bool.not_true, Bool.not_false, yieldA_at 4 54]) | refine WA_seq ?_ | refine WA_block ?_ | (refine WA_skip ?_; try simp only [go_sem]) | (refine WA_ret ?_; try simp only [go_sem]) | refine WA_ct rfl ?_ | refine WA_cf rfl ?_))
  refine WA_forP (fun k => [(6, J), (7, J), (16, .int .i64 k), (17, J), (18, J), (19, J), (20, J), (21, J), (22, J), (23, J), (24, J), (25, J), (26, J), (27, J), (28, J), (29, J), (30, J), (31, J), (32, J), (33, J), (34, J), (35, J), (36, J)]) (fun k => [(2, ⟨Is 256 (pre (k * 16) (frF m mx) fun _ => 0), true⟩)]) (16) ?_ ?_ ?_ <;> (try simp only [patT_cons, patT_nil, patL_cons, patL_nil, list_set_zero, list_set_succ, blk_set_zero, blk_set_succ])
  · rw [Nat.zero_mul, pre_zero]
    (refine Drop_slots (by first | exact Nat.le_refl _ | simp) ?_; focus ((try simp only [JL_same, JL_J, JL_nil, Int.reduceAdd, Nat.sub_sub, Int.natCast_add, Int.natCast_one, Int.natCast_zero, Int.cast_ofNat_Int, Nat.add_zero, Bool.false_eq_true, if_false, if_true]); (try exact JL_refl _)))
  · intro i hi
    (repeat (first | ((first | (refine And.intro ?_ ?_; focus (first | exact plain_agg (by simp only [go_sem]) | exact plain_two (by first | exact plain_agg (by simp only [go_sem]) | rfl) rfl | rfl)) | refine WA_seq (WA_region ?_) | refine WA_region ?_ | refine WA_exit ?_); try simp (maxSteps := 1000000) (disch := first | omega | rfl | decide | (simp only [List.length_cons, List.length_nil, List.length_append, Bs_length, Is_length, Vs_length, Bl_length, Il_length] <;> omega)) only [go_sem, Nat.reduceAdd, Int.reduceAdd, Int.reduceSub, Int.reduceMul, Bool.not_true, Bool.not_false, yieldA_at 4 54]) | refine WA_seq ?_ | refine WA_block ?_ | (refine WA_skip ?_; try simp only [go_sem]) | (refine WA_ret ?_; try simp only [go_sem]) | refine WA_ct rfl ?_ | refine WA_cf rfl ?_))
    refine WA_forP (fun k => [(7, J), (19, .int .i64 k), (20, J), (21, J), (22, J), (23, J), (24, J), (25, J), (26, J), (27, J), (28, J), (29, J), (30, J), (31, J), (32, J), (33, J), (34, J), (35, J)]) (fun k => [(2, ⟨Is 256 (pre (i * 16 + k) (frF m mx) fun _ => 0), true⟩)]) (16) ?_ ?_ ?_ <;> (try simp only [patT_cons, patT_nil, patL_cons, patL_nil, list_set_zero, list_set_succ, blk_set_zero, blk_set_succ])
    · (refine Drop_slots (by first | exact Nat.le_refl _ | simp) ?_; focus ((try simp only [JL_same, JL_J, JL_nil, Int.reduceAdd, Nat.sub_sub, Int.natCast_add, Int.natCast_one, Int.natCast_zero, Int.cast_ofNat_Int, Nat.add_zero, Bool.false_eq_true, if_false, if_true]); (try exact JL_refl _)))
    · intro j hj
      have hone := ones_ac (x := j) hj
      have hrk := rankI_ac h0 h1 mx (R := i) (C := j) hi hj
      have hle := free_le m mx i j
      have hc4 := cn_le j 4
      have hfr : freeN m mx i j = cn j 4 - (rkS m (cn i 4) j (E0 i mx) 4).r := by unfold freeN; rfl
      generalize (rkS m (cn i 4) j (E0 i mx) 4).r = rk at *
      have hu := rowC_part (m := m) mx hj hfr
      (repeat (first | ((first | (refine And.intro ?_ ?_; focus (first | exact plain_agg (by simp only [go_sem]) | exact plain_two (by first | exact plain_agg (by simp only [go_sem]) | rfl) rfl | rfl)) | ((first | with_reducible apply callB_i | with_reducible apply callK_intro | with_reducible apply callQ_i); (focus (first | assumption | ((first | with_reducible apply hone | with_reducible apply hrk) <;> (first | assumption | rfl | (simp (disch := omega) only [go_sem]; first | done | rfl) | omega | decide | (simp; done))))); (try (focus (refine WP.mk ?_ ?_; (focus ((repeat (first | exact trivial | (refine And.intro ?_ ?_; (focus first | exact plainV_wf rfl | (refine plainV_wf (plain_agg ?_); simp only [go_sem]; done) | (simp only [wfV, wf1, wfC, List.length_append, List.length_cons, List.length_nil]; omega))))))); (focus (first | rfl | (refine plain_agg ?_; simp only [go_sem]; done) | (refine plain_two ?_ ?_ <;> first | rfl | (refine plain_agg ?_; simp only [go_sem]; done)))))))) | refine WA_seq (WA_region ?_) | refine WA_region ?_ | refine WA_exit ?_); try simp (maxSteps := 1000000) (disch := first | omega | rfl | decide | (simp only [List.length_cons, List.length_nil, List.length_append, Bs_length, Is_length, Vs_length, Bl_length, Il_length] <;> omega)) only [go_sem, Nat.reduceAdd, Int.reduceAdd, Int.reduceSub, Int.reduceMul, Bool.not_true, Bool.not_false, hu, yieldA_at 4 54]) | (refine (WA_rb (id := 8) [13] (SubM.refl _) mixedOk ?_); simp only [List.size_toArray, List.length_cons, List.length_nil]; (repeat (first | ((first | (refine And.intro ?_ ?_; focus (first | exact plain_agg (by simp only [go_sem]) | exact plain_two (by first | exact plain_agg (by simp only [go_sem]) | rfl) rfl | rfl)) | ((first | with_reducible apply callB_i | with_reducible apply callK_intro | with_reducible apply callQ_i); (focus (first | assumption | ((first | with_reducible apply hone | with_reducible apply hrk) <;> (first | assumption | rfl | (simp (disch := omega) only [go_sem]; first | done | rfl) | omega | decide | (simp; done))))); (try (focus (refine WP.mk ?_ ?_; (focus ((repeat (first | exact trivial | (refine And.intro ?_ ?_; (focus first | exact plainV_wf rfl | (refine plainV_wf (plain_agg ?_); simp only [go_sem]; done) | (simp only [wfV, wf1, wfC, List.length_append, List.length_cons, List.length_nil]; omega))))))); (focus (first | rfl | (refine plain_agg ?_; simp only [go_sem]; done) | (refine plain_two ?_ ?_ <;> first | rfl | (refine plain_agg ?_; simp only [go_sem]; done)))))))) | refine RB_take false [0, 1, 2, 3, 5, 7, 8, 11] 6 (by rfl) (by kernel_rfl) (by decide) (by decide +kernel) ?_ | refine RB_take true [4, 6, 9] 3 (by rfl) (by kernel_rfl) (by decide) (by decide +kernel) ?_ | refine RB_take false [10, 12] 1 (by rfl) (by kernel_rfl) (by decide) (by decide +kernel) ?_ | refine RB_exec 13 _ (by rfl) (by decide +kernel) (by decide +kernel) ?_ | refine RB_done (by decide +kernel) ?_); try simp (maxSteps := 1000000) (disch := first | omega | rfl | decide | (simp only [List.length_cons, List.length_nil, List.length_append, Bs_length, Is_length, Vs_length, Bl_length, Il_length] <;> omega)) only [go_sem, Nat.reduceAdd, Int.reduceAdd, Int.reduceSub, Int.reduceMul, Bool.not_true, Bool.not_false, hu, yieldA_at 4 54])))) | refine WA_seq ?_ | refine WA_block ?_ | (refine WA_skip ?_; try simp only [go_sem]) | (refine WA_ret ?_; try simp only [go_sem]) | refine WA_ct rfl ?_ | refine WA_cf rfl ?_))
      all_goals (refine Drop_slots (by first | exact Nat.le_refl _ | simp) ?_; focus ((try simp only [JL_same, JL_J, JL_nil, Int.reduceAdd, Nat.sub_sub, Int.natCast_add, Int.natCast_one, Int.natCast_zero, Int.cast_ofNat_Int, Nat.add_zero, Bool.false_eq_true, if_false, if_true, Nat.add_assoc]); (try exact JL_refl _)))
    · (repeat (first | ((first | (refine And.intro ?_ ?_; focus (first | exact plain_agg (by simp only [go_sem]) | exact plain_two (by first | exact plain_agg (by simp only [go_sem]) | rfl) rfl | rfl)) | refine WA_seq (WA_region ?_) | refine WA_region ?_ | refine WA_exit ?_); try simp (maxSteps := 1000000) (disch := first | omega | rfl | decide | (simp only [List.length_cons, List.length_nil, List.length_append, Bs_length, Is_length, Vs_length, Bl_length, Il_length] <;> omega)) only [go_sem, Nat.reduceAdd, Int.reduceAdd, Int.reduceSub, Int.reduceMul, Bool.not_true, Bool.not_false, yieldA_at 4 54]) | refine WA_seq ?_ | refine WA_block ?_ | (refine WA_skip ?_; try simp only [go_sem]) | (refine WA_ret ?_; try simp only [go_sem]) | refine WA_ct rfl ?_ | refine WA_cf rfl ?_))
      rw [show (i + 1) * 16 = i * 16 + 16 by omega]
      (refine Drop_slots (by first | exact Nat.le_refl _ | simp) ?_; focus ((try simp only [JL_same, JL_J, JL_nil, Int.reduceAdd, Nat.sub_sub, Int.natCast_add, Int.natCast_one, Int.natCast_zero, Int.cast_ofNat_Int, Nat.add_zero, Bool.false_eq_true, if_false, if_true]); (try exact JL_refl _)))
  · (repeat (first | ((first | (refine And.intro ?_ ?_; focus (first | exact plain_agg (by simp only [go_sem]) | exact plain_two (by first | exact plain_agg (by simp only [go_sem]) | rfl) rfl | rfl)) | refine WA_seq (WA_region ?_) | refine WA_region ?_ | refine WA_exit ?_); try simp (maxSteps := 1000000) (disch := first | omega | rfl | decide | (simp only [List.length_cons, List.length_nil, List.length_append, Bs_length, Is_length, Vs_length, Bl_length, Il_length] <;> omega)) only [go_sem, Nat.reduceAdd, Int.reduceAdd, Int.reduceSub, Int.reduceMul, Bool.not_true, Bool.not_false, yieldA_at 4 54]) | refine WA_seq ?_ | refine WA_block ?_ | (refine WA_skip ?_; try simp only [go_sem]) | (refine WA_ret ?_; try simp only [go_sem]) | refine WA_ct rfl ?_ | refine WA_cf rfl ?_))
    refine WA_forH (fun k => [(3, pt (rowsH h (paBl m mx) k).length 0), (4, pt ((rowsH h (paBl m mx) k).length + 1) 0), (5, pt ((rowsH h (paBl m mx) k).length + 2) 0), (8, pt ((rowsH h (paBl m mx) k).length + 3) 0), (9, J), (10, J), (11, J), (12, J), (13, J), (14, J), (38, .int .i64 k), (39, J), (40, J), (41, J), (42, J), (43, J), (44, J), (45, J), (46, J), (47, J), (48, J), (49, J), (50, J), (51, J), (52, J), (53, J), (54, J), (55, J), (56, J), (57, J), (58, J), (59, J), (60, J), (61, J), (62, J), (63, J), (64, J), (65, J), (66, J), (67, J), (68, J), (69, J), (70, J), (71, J), (72, J), (73, J), (74, J), (75, J), (76, J), (77, J), (78, J), (79, J), (80, J), (81, J), (82, J), (83, J), (84, J), (85, J), (86, J), (87, J), (88, J), (89, J), (90, J), (91, J), (92, J), (93, J), (94, J), (95, J), (96, J), (97, J), (98, J), (99, J)]) (fun k => rowsH h (paBl m mx) k ++ [⟨Bs 16 mx, true⟩, ⟨Vs 16 fun _ => .slice none 0 0, true⟩, ⟨Is 256 (frF m mx), true⟩, ⟨Vs 16 (outV h.length (paLen m mx) k 0 0), true⟩]) (16) ?_ ?_ ?_ <;> (try simp only [patT_cons, patT_nil, patL_cons, patL_nil, list_set_zero, list_set_succ, blk_set_zero, blk_set_succ])
    · rw [rowsH_zero, outV_start, show 16 * 16 = 256 from rfl, Is_pre]
      (refine Drop_slots (by first | exact Nat.le_refl _ | simp) ?_; focus ((try simp only [JL_same, JL_J, JL_nil, Int.reduceAdd, Nat.sub_sub, Int.natCast_add, Int.natCast_one, Int.natCast_zero, Int.cast_ofNat_Int, Nat.add_zero, Bool.false_eq_true, if_false, if_true]); (try exact JL_refl _)))
    · intro p hp
      have hll := rowsH_len h (paBl m mx) p
      have hwj := rowsH_wf (k := p) hwf (paBl_plain m mx)
      (repeat (first | ((first | (refine And.intro ?_ ?_; focus (first | exact plain_agg (by simp only [go_sem]) | exact plain_two (by first | exact plain_agg (by simp only [go_sem]) | rfl) rfl | rfl)) | refine WA_seq (WA_region ?_) | refine WA_region ?_ | refine WA_exit ?_); try simp (maxSteps := 1000000) (disch := first | omega | rfl | decide | (simp only [List.length_cons, List.length_nil, List.length_append, Bs_length, Is_length, Vs_length, Bl_length, Il_length] <;> omega)) only [go_sem, Nat.reduceAdd, Int.reduceAdd, Int.reduceSub, Int.reduceMul, Bool.not_true, Bool.not_false, yieldA_at 4 54]) | refine WA_seq ?_ | refine WA_block ?_ | (refine WA_skip ?_; try simp only [go_sem]) | (refine WA_ret ?_; try simp only [go_sem]) | refine WA_ct rfl ?_ | refine WA_cf rfl ?_))
      refine WA_forH (fun k => [(10, J), (11, J), (12, J), (13, J), (14, J), (41, .int .i64 k), (42, J), (43, J), (44, J), (45, J), (46, J), (47, J), (48, J), (49, J), (50, J), (51, J), (52, J), (53, J), (54, J), (55, J), (56, J), (57, J), (58, J), (59, J), (60, J), (61, J), (62, J), (63, J), (64, J), (65, J), (66, J), (67, J), (68, J), (69, J), (70, J), (71, J), (72, J), (73, J), (74, J), (75, J), (76, J), (77, J), (78, J), (79, J), (80, J), (81, J), (82, J), (83, J), (84, J), (85, J), (86, J), (87, J), (88, J), (89, J), (90, J), (91, J), (92, J), (93, J), (94, J), (95, J), (96, J), (97, J), (98, J)]) (fun k => rowsH h (paBl m mx) p ++ (⟨Bs 16 mx, true⟩ :: ⟨Vs 16 fun _ => .slice none 0 0, true⟩ :: ⟨Is 256 (frF m mx), true⟩ :: ⟨Vs 16 (outV h.length (paLen m mx) p ((rowsH h (paBl m mx) p).length + 4) (patL m mx p k).length), true⟩ :: ptl (patL m mx p k))) (16) ?_ ?_ ?_ <;> (try simp only [patT_cons, patT_nil, patL_cons, patL_nil, list_set_zero, list_set_succ, blk_set_zero, blk_set_succ])
      · rw [patL_zero, ptl_nil, List.length_nil, outV_zero h.length (paLen m mx) p 0 ((rowsH h (paBl m mx) p).length + 4)]
        (refine Drop_slots (by first | exact Nat.le_refl _ | (rw [List.length_append, rowsH_len]; omega)) ?_; focus ((try simp only [JL_same, JL_J, JL_nil, Int.reduceAdd, Nat.sub_sub, Int.natCast_add, Int.natCast_one, Int.natCast_zero, Int.cast_ofNat_Int, Nat.add_zero, Bool.false_eq_true, if_false, if_true]); (try exact JL_refl _)))
      · intro q hq
        have hmany := many_T h0 h1 hf mx hp hq
        have hle := patL_le m mx p q
        have hnx : patL m mx p (q + 1) = if 0 < manyF m mx p q then patL m mx p q ++ [(q : Int)] else patL m mx p q := by
          by_cases hpos : 0 < manyF m mx p q
          · rw [if_pos hpos, patL_t hpos]
          · rw [if_neg hpos, patL_f hpos]
        rw [hnx]
        generalize patL m mx p q = l at *
        generalize hT : ptl l = T
        (repeat (first | ((first | (refine And.intro ?_ ?_; focus (first | exact plain_agg (by simp only [go_sem]) | exact plain_two (by first | exact plain_agg (by simp only [go_sem]) | rfl) rfl | rfl)) | refine WA_seq (WA_region ?_) | refine WA_region ?_ | refine WA_exit ?_); try simp (maxSteps := 1000000) (disch := first | omega | rfl | decide | (simp only [List.length_cons, List.length_nil, List.length_append, Bs_length, Is_length, Vs_length, Bl_length, Il_length] <;> omega)) only [go_sem, Nat.reduceAdd, Int.reduceAdd, Int.reduceSub, Int.reduceMul, Bool.not_true, Bool.not_false, yieldA_at 4 54]) | refine WA_seq ?_ | refine WA_block ?_ | (refine WA_skip ?_; try simp only [go_sem]) | (refine WA_ret ?_; try simp only [go_sem]) | refine WA_ct rfl ?_ | refine WA_cf rfl ?_))
        refine WA_forP (fun k => [(11, .int .i64 (sumI (fun x => sumI (trmI m mx p q x) 16) k)), (12, J), (13, J), (14, J), (44, .int .i64 k), (45, J), (46, J), (47, J), (48, J), (49, J), (50, J), (51, J), (52, J), (53, J), (54, J), (55, J), (56, J), (57, J), (58, J), (59, J), (60, J), (61, J), (62, J), (63, J), (64, J), (65, J), (66, J), (67, J), (68, J), (69, J), (70, J), (71, J), (72, J), (73, J), (74, J), (75, J), (76, J), (77, J), (78, J), (79, J), (80, J), (81, J), (82, J), (83, J), (84, J), (85, J), (86, J), (87, J)]) (fun k => []) (16) ?_ ?_ ?_ <;> (try simp only [patT_cons, patT_nil, patL_cons, patL_nil, list_set_zero, list_set_succ, blk_set_zero, blk_set_succ])
        · (refine Drop_slots (by first | exact Nat.le_refl _ | (rw [List.length_append, rowsH_len]; omega)) ?_; focus ((try simp only [JL_same, JL_J, JL_nil, Int.reduceAdd, Nat.sub_sub, Int.natCast_add, Int.natCast_one, Int.natCast_zero, Int.cast_ofNat_Int, Nat.add_zero, Bool.false_eq_true, if_false, if_true, show sumI (fun x => sumI (trmI m mx p q x) 16) 0 = 0 from rfl]); (try exact JL_refl _)))
        · intro x hx
          have hall := allI_le m mx p q x
          have hsx : sumI (fun x => sumI (trmI m mx p q x) 16) x + sumI (trmI m mx p q x) 16 = sumI (fun x => sumI (trmI m mx p q x) 16) (x + 1) := rfl
          rw [← hsx]
          generalize sumI (fun x => sumI (trmI m mx p q x) 16) x = S0 at *
          have hax := andn_eq x hx p hp
          (repeat (first | ((first | (refine And.intro ?_ ?_; focus (first | exact plain_agg (by simp only [go_sem]) | exact plain_two (by first | exact plain_agg (by simp only [go_sem]) | rfl) rfl | rfl)) | refine WA_seq (WA_region ?_) | refine WA_region ?_ | refine WA_exit ?_); try simp (maxSteps := 1000000) (disch := first | omega | rfl | decide | (simp only [List.length_cons, List.length_nil, List.length_append, Bs_length, Is_length, Vs_length, Bl_length, Il_length] <;> omega)) only [go_sem, Nat.reduceAdd, Int.reduceAdd, Int.reduceSub, Int.reduceMul, Bool.not_true, Bool.not_false, yieldA_at 4 54]) | refine WA_seq ?_ | refine WA_block ?_ | (refine WA_skip ?_; try simp only [go_sem]) | (refine WA_ret ?_; try simp only [go_sem]) | refine WA_ct rfl ?_ | refine WA_cf rfl ?_))
          refine WA_forP (fun k => [(11, .int .i64 (S0 + sumI (trmI m mx p q x) k)), (13, J), (14, J), (47, .int .i64 k), (48, J), (49, J), (50, J), (51, J), (52, J), (53, J), (54, J), (55, J), (56, J), (57, J), (58, J), (59, J), (60, J), (61, J), (62, J), (63, J), (64, J), (65, J), (66, J), (67, J), (68, J), (69, J), (70, J), (71, J), (72, J), (73, J), (74, J), (75, J), (76, J), (77, J), (78, J), (79, J), (80, J), (81, J), (82, J), (83, J), (84, J), (85, J), (86, J)]) (fun k => []) (16) ?_ ?_ ?_ <;> (try simp only [patT_cons, patT_nil, patL_cons, patL_nil, list_set_zero, list_set_succ, blk_set_zero, blk_set_succ])
          · (refine Drop_slots (by first | exact Nat.le_refl _ | (rw [List.length_append, rowsH_len]; omega)) ?_; focus ((try simp only [JL_same, JL_J, JL_nil, Int.reduceAdd, Nat.sub_sub, Int.natCast_add, Int.natCast_one, Int.natCast_zero, Int.cast_ofNat_Int, Nat.add_zero, Bool.false_eq_true, if_false, if_true, show sumI (trmI m mx p q x) 0 = 0 from rfl, Int.add_zero]); (try exact JL_refl _)))
          · intro y hy
            have hrow := rowI_le m mx p q x y
            have hrow2 := rowI_le m mx p q x (y + 1)
            have hsy : sumI (trmI m mx p q x) (y + 1) = sumI (trmI m mx p q x) y + trmI m mx p q x y := rfl
            rw [hsy] at hrow2 ⊢
            have hay := andn_eq y hy q hq
            by_cases hm : x &&& p = x ∧ y &&& q = y
            · have hu : p ^^^ x < 16 := sub_lt x hx p hp
              have ht := trmI_yes (m := m) (a := mx) hu hy hm.1 hm.2
              have hw : 15 ^^^ (q ^^^ y) < 16 := flip_lt _ (sub_lt y hy q hq)
              have hor := andn_or q hq y hy hm.2
              have hfa := frF_at (m := m) (a := mx) (R := 15 ^^^ (q ^^^ y)) hx
              have hxx := bits_xor_N (a := p) (b := x) (by omega) (by omega)
              have hv4 := free_4 m mx (15 ^^^ (q ^^^ y)) x
              have hf4 : freeN m mx (15 ^^^ (q ^^^ y)) x ≤ 4 := by have := cn_le x 4; unfold freeN; omega
              have hsh := shl8 hf4
              have hsh2 := shl8' hf4
              have hwv := wrap_N (n := 256 ^ freeN m mx (15 ^^^ (q ^^^ y)) x) (by omega)
              have ho1 := ones_ac hu
              have ho2 := ones_ac hy
              have hc1 := cn_le (p ^^^ x) 4
              have hc2 := cn_le y 4
              rw [ht] at hrow2 ⊢
              generalize sumI (trmI m mx p q x) y = S1 at *
              generalize 15 ^^^ (q ^^^ y) = R at *
              generalize p ^^^ x = u at *
              generalize cn u 4 = c1 at *
              generalize cn y 4 = c2 at *
              by_cases hpar : (c1 + c2) % 2 = 1
              · have hp1 := parI (c1 + c2)
                have hp2 := parN (c1 + c2)
                rw [decide_eq_true hpar] at hp1 hp2
                rw [if_pos hpar] at hrow2 ⊢
                have hneg : IntKind.i64.wrap (0 - ((256 ^ freeN m mx R x : Nat) : Int)) = -1 * ((256 ^ freeN m mx R x : Nat) : Int) := by
                  rw [Int.zero_sub, Int.neg_mul, Int.one_mul]; exact wrap_i64 (by omega) (by omega)
                generalize 256 ^ freeN m mx R x = V at *
                (repeat (first | ((first | (refine And.intro ?_ ?_; focus (first | exact plain_agg (by simp only [go_sem]) | exact plain_two (by first | exact plain_agg (by simp only [go_sem]) | rfl) rfl | rfl)) | ((first | with_reducible apply callB_i | with_reducible apply callK_intro | with_reducible apply callQ_i); (focus (first | assumption | ((first | with_reducible apply ho1 | with_reducible apply ho2) <;> (first | assumption | rfl | (simp (disch := omega) only [go_sem]; first | done | rfl) | omega | decide | (simp; done))))); (try (focus (refine WP.mk ?_ ?_; (focus ((repeat (first | exact trivial | (refine And.intro ?_ ?_; (focus first | exact plainV_wf rfl | (refine plainV_wf (plain_agg ?_); simp only [go_sem]; done) | (simp only [wfV, wf1, wfC, List.length_append, List.length_cons, List.length_nil]; omega))))))); (focus (first | rfl | (refine plain_agg ?_; simp only [go_sem]; done) | (refine plain_two ?_ ?_ <;> first | rfl | (refine plain_agg ?_; simp only [go_sem]; done)))))))) | refine WA_seq (WA_region ?_) | refine WA_region ?_ | refine WA_exit ?_); try simp (maxSteps := 1000000) (disch := first | omega | rfl | decide | (simp only [List.length_cons, List.length_nil, List.length_append, Bs_length, Is_length, Vs_length, Bl_length, Il_length] <;> omega)) only [go_sem, Nat.reduceAdd, Int.reduceAdd, Int.reduceSub, Int.reduceMul, Bool.not_true, Bool.not_false, hax, hay, decide_eq_true hm.1, decide_eq_true hm.2, Bool.not_true, hor, hfa, hsh, hsh2, hwv, hxx, hp1, hp2, hneg, yieldA_at 4 54]) | refine WA_seq ?_ | refine WA_block ?_ | (refine WA_skip ?_; try simp only [go_sem]) | (refine WA_ret ?_; try simp only [go_sem]) | refine WA_ct rfl ?_ | refine WA_cf rfl ?_))
                (refine Drop_slots (by first | exact Nat.le_refl _ | (rw [List.length_append, rowsH_len]; omega)) ?_; focus ((try simp only [JL_same, JL_J, JL_nil, Int.reduceAdd, Nat.sub_sub, Int.natCast_add, Int.natCast_one, Int.natCast_zero, Int.cast_ofNat_Int, Nat.add_zero, Bool.false_eq_true, if_false, if_true, Int.add_assoc]); (try exact JL_refl _)))
              · have hp1 := parI (c1 + c2)
                have hp2 := parN (c1 + c2)
                rw [decide_eq_false hpar] at hp1 hp2
                rw [if_neg hpar, Int.one_mul] at hrow2 ⊢
                generalize 256 ^ freeN m mx R x = V at *
                (repeat (first | ((first | (refine And.intro ?_ ?_; focus (first | exact plain_agg (by simp only [go_sem]) | exact plain_two (by first | exact plain_agg (by simp only [go_sem]) | rfl) rfl | rfl)) | ((first | with_reducible apply callB_i | with_reducible apply callK_intro | with_reducible apply callQ_i); (focus (first | assumption | ((first | with_reducible apply ho1 | with_reducible apply ho2) <;> (first | assumption | rfl | (simp (disch := omega) only [go_sem]; first | done | rfl) | omega | decide | (simp; done))))); (try (focus (refine WP.mk ?_ ?_; (focus ((repeat (first | exact trivial | (refine And.intro ?_ ?_; (focus first | exact plainV_wf rfl | (refine plainV_wf (plain_agg ?_); simp only [go_sem]; done) | (simp only [wfV, wf1, wfC, List.length_append, List.length_cons, List.length_nil]; omega))))))); (focus (first | rfl | (refine plain_agg ?_; simp only [go_sem]; done) | (refine plain_two ?_ ?_ <;> first | rfl | (refine plain_agg ?_; simp only [go_sem]; done)))))))) | refine WA_seq (WA_region ?_) | refine WA_region ?_ | refine WA_exit ?_); try simp (maxSteps := 1000000) (disch := first | omega | rfl | decide | (simp only [List.length_cons, List.length_nil, List.length_append, Bs_length, Is_length, Vs_length, Bl_length, Il_length] <;> omega)) only [go_sem, Nat.reduceAdd, Int.reduceAdd, Int.reduceSub, Int.reduceMul, Bool.not_true, Bool.not_false, hax, hay, decide_eq_true hm.1, decide_eq_true hm.2, Bool.not_true, hor, hfa, hsh, hsh2, hwv, hxx, hp1, hp2, yieldA_at 4 54]) | refine WA_seq ?_ | refine WA_block ?_ | (refine WA_skip ?_; try simp only [go_sem]) | (refine WA_ret ?_; try simp only [go_sem]) | refine WA_ct rfl ?_ | refine WA_cf rfl ?_))
                (refine Drop_slots (by first | exact Nat.le_refl _ | (rw [List.length_append, rowsH_len]; omega)) ?_; focus ((try simp only [JL_same, JL_J, JL_nil, Int.reduceAdd, Nat.sub_sub, Int.natCast_add, Int.natCast_one, Int.natCast_zero, Int.cast_ofNat_Int, Nat.add_zero, Bool.false_eq_true, if_false, if_true, Int.add_assoc]); (try exact JL_refl _)))
            · have ht := trmI_no (m := m) (a := mx) hm
              rw [ht, Int.add_zero]
              by_cases h3 : x &&& p = x
              · have h4 : ¬ y &&& q = y := fun h5 => hm ⟨h3, h5⟩
                (repeat (first | ((first | (refine And.intro ?_ ?_; focus (first | exact plain_agg (by simp only [go_sem]) | exact plain_two (by first | exact plain_agg (by simp only [go_sem]) | rfl) rfl | rfl)) | refine WA_seq (WA_region ?_) | refine WA_region ?_ | refine WA_exit ?_); try simp (maxSteps := 1000000) (disch := first | omega | rfl | decide | (simp only [List.length_cons, List.length_nil, List.length_append, Bs_length, Is_length, Vs_length, Bl_length, Il_length] <;> omega)) only [go_sem, Nat.reduceAdd, Int.reduceAdd, Int.reduceSub, Int.reduceMul, Bool.not_true, Bool.not_false, hax, hay, decide_eq_true h3, decide_eq_false h4, Bool.not_true, Bool.not_false, yieldA_at 4 54]) | refine WA_seq ?_ | refine WA_block ?_ | (refine WA_skip ?_; try simp only [go_sem]) | (refine WA_ret ?_; try simp only [go_sem]) | refine WA_ct rfl ?_ | refine WA_cf rfl ?_))
                (refine Drop_slots (by first | exact Nat.le_refl _ | (rw [List.length_append, rowsH_len]; omega)) ?_; focus ((try simp only [JL_same, JL_J, JL_nil, Int.reduceAdd, Nat.sub_sub, Int.natCast_add, Int.natCast_one, Int.natCast_zero, Int.cast_ofNat_Int, Nat.add_zero, Bool.false_eq_true, if_false, if_true]); (try exact JL_refl _)))
              · (repeat (first | ((first | (refine And.intro ?_ ?_; focus (first | exact plain_agg (by simp only [go_sem]) | exact plain_two (by first | exact plain_agg (by simp only [go_sem]) | rfl) rfl | rfl)) | refine WA_seq (WA_region ?_) | refine WA_region ?_ | refine WA_exit ?_); try simp (maxSteps := 1000000) (disch := first | omega | rfl | decide | (simp only [List.length_cons, List.length_nil, List.length_append, Bs_length, Is_length, Vs_length, Bl_length, Il_length] <;> omega)) only [go_sem, Nat.reduceAdd, Int.reduceAdd, Int.reduceSub, Int.reduceMul, Bool.not_true, Bool.not_false, hax, hay, decide_eq_false h3, Bool.not_false, yieldA_at 4 54]) | refine WA_seq ?_ | refine WA_block ?_ | (refine WA_skip ?_; try simp only [go_sem]) | (refine WA_ret ?_; try simp only [go_sem]) | refine WA_ct rfl ?_ | refine WA_cf rfl ?_))
                (refine Drop_slots (by first | exact Nat.le_refl _ | (rw [List.length_append, rowsH_len]; omega)) ?_; focus ((try simp only [JL_same, JL_J, JL_nil, Int.reduceAdd, Nat.sub_sub, Int.natCast_add, Int.natCast_one, Int.natCast_zero, Int.cast_ofNat_Int, Nat.add_zero, Bool.false_eq_true, if_false, if_true]); (try exact JL_refl _)))
          · (repeat (first | ((first | (refine And.intro ?_ ?_; focus (first | exact plain_agg (by simp only [go_sem]) | exact plain_two (by first | exact plain_agg (by simp only [go_sem]) | rfl) rfl | rfl)) | refine WA_seq (WA_region ?_) | refine WA_region ?_ | refine WA_exit ?_); try simp (maxSteps := 1000000) (disch := first | omega | rfl | decide | (simp only [List.length_cons, List.length_nil, List.length_append, Bs_length, Is_length, Vs_length, Bl_length, Il_length] <;> omega)) only [go_sem, Nat.reduceAdd, Int.reduceAdd, Int.reduceSub, Int.reduceMul, Bool.not_true, Bool.not_false, yieldA_at 4 54]) | refine WA_seq ?_ | refine WA_block ?_ | (refine WA_skip ?_; try simp only [go_sem]) | (refine WA_ret ?_; try simp only [go_sem]) | refine WA_ct rfl ?_ | refine WA_cf rfl ?_))
            (refine Drop_slots (by first | exact Nat.le_refl _ | (rw [List.length_append, rowsH_len]; omega)) ?_; focus ((try simp only [JL_same, JL_J, JL_nil, Int.reduceAdd, Nat.sub_sub, Int.natCast_add, Int.natCast_one, Int.natCast_zero, Int.cast_ofNat_Int, Nat.add_zero, Bool.false_eq_true, if_false, if_true]); (try exact JL_refl _)))
        · rw [hmany]
          have hnn := many_nonneg m mx p q
          have hll2 : (patL m mx p 0).length = 0 := by rw [patL_zero]; rfl
          by_cases hpos : 0 < manyF m mx p q
          · have hne : (manyF m mx p q != 0) = true := by rw [bne_iff_ne]; omega
            rw [if_pos hpos]
            generalize manyF m mx p q = M at *
            by_cases hl : l = []
            · subst hl
              rw [← hT, ptl_nil, List.nil_append, ptl_cons (List.cons_ne_nil _ _)]
              have hat := outV_at h.length (paLen m mx) p ((rowsH h (paBl m mx) p).length + 4) ([] : List Int).length
              rw [if_neg (by simp)] at hat
              have hset := outV_set h.length (paLen m mx) p ((rowsH h (paBl m mx) p).length + 4) ([] : List Int).length
              (repeat (first | ((first | (refine And.intro ?_ ?_; focus (first | exact plain_agg (by simp only [go_sem]) | exact plain_two (by first | exact plain_agg (by simp only [go_sem]) | rfl) rfl | rfl)) | refine WA_seq (WA_region ?_) | refine WA_region ?_ | refine WA_exit ?_); try simp (maxSteps := 1000000) (disch := first | omega | rfl | decide | (simp only [List.length_cons, List.length_nil, List.length_append, Bs_length, Is_length, Vs_length, Bl_length, Il_length] <;> omega)) only [go_sem, Nat.reduceAdd, Int.reduceAdd, Int.reduceSub, Int.reduceMul, Bool.not_true, Bool.not_false, hne, hat, appR_nil (show (1 : Nat) ≠ 0 by omega) (show 1 * 8 ≤ 140737488355328 by omega), yieldA_at 4 54]) | refine WA_seq ?_ | refine WA_block ?_ | (refine WA_skip ?_; try simp only [go_sem]) | (refine WA_ret ?_; try simp only [go_sem]) | refine WA_ct rfl ?_ | refine WA_cf rfl ?_))
              rw [hset _ 1 (by omega), show ([((q : Nat) : Int)] : List Int).length = 1 from rfl]
              (refine Drop_gc [0, 1, 2, 3, 5] (by first | omega | first | assumption | omega | (simp only [List.length_append, List.length_cons, List.length_nil, List.length_replicate]; omega)) (by assumption) (by decide) ?_ ?_; (focus (repeat (first | exact trivial | (refine And.intro ⟨_, rfl, ?_⟩ ?_; (focus first | (refine Fit_plain ?_; simp only [go_sem, List.all_append, List.all_cons, List.all_nil, Bool.and_self]; done) | exact Fit_nil rfl | exact Fit_dead | (refine Fit_eq ?_ ?_; (focus simp only [go_sem, List.all_append, List.all_cons, List.all_nil, Bool.and_self]); (focus (first | rfl | (simp only [Int.natCast_add, Int.natCast_one, Int.natCast_zero, Int.cast_ofNat_Int, Nat.add_zero]; done) | (simp only [Int.natCast_add, Int.natCast_one, Int.natCast_zero, Int.cast_ofNat_Int, Nat.add_zero]; rfl)))) | exact Fit_Vnil | (refine Fit_outV (i0 := 4) (by assumption) (by assumption) ?_ rfl; (focus (simp only [List.length_append, List.length_cons, List.length_nil]; omega))) | (refine Fit_outV (i0 := 0) (by assumption) (by assumption) ?_ rfl; (focus (simp only [List.length_append, List.length_cons, List.length_nil]; omega)))))))); (focus (repeat (first | exact JR_nil | refine JR_J ?_ | (refine JR_plain ?_ ?_; (focus first | rfl | (refine plain_agg ?_; simp only [go_sem, List.all_append, List.all_cons, List.all_nil, Bool.and_self]; done))) | ((first | refine JR_pt ?_ ?_ ?_ | refine JR_sl ?_ ?_ ?_); (focus first | (rw [rhoF_new0]; rfl) | (rw [rhoF_new]; rfl) | (rw [rhoF_old]; first | assumption | omega)); (focus first | assumption | omega | (simp only [List.length_append, List.length_cons, List.length_nil, List.length_replicate]; omega))) | (refine JR_plain' ?_ ?_ ?_; (focus first | rfl | (refine plain_agg ?_; simp only [go_sem, List.all_append, List.all_cons, List.all_nil, Bool.and_self]; done)); (focus (first | rfl | (simp only [Int.natCast_add, Int.natCast_one, Int.natCast_zero, Int.cast_ofNat_Int, Nat.add_zero]; done) | (simp only [Int.natCast_add, Int.natCast_one, Int.natCast_zero, Int.cast_ofNat_Int, Nat.add_zero]; rfl)))) | (refine JR_sl' ?_ ?_ ?_ ?_; (focus first | (rw [rhoF_new0]; rfl) | (rw [rhoF_new]; rfl) | (rw [rhoF_old]; first | assumption | omega)); (focus first | assumption | omega | (simp only [List.length_append, List.length_cons, List.length_nil, List.length_replicate]; omega)); (focus first | rfl | omega | (first | rfl | (simp only [Int.natCast_add, Int.natCast_one, Int.natCast_zero, Int.cast_ofNat_Int, Nat.add_zero]; done) | (simp only [Int.natCast_add, Int.natCast_one, Int.natCast_zero, Int.cast_ofNat_Int, Nat.add_zero]; rfl))))))))
            · rw [← hT, ptl_cons hl, ptl_cons (by simp)]
              have hat := outV_at h.length (paLen m mx) p ((rowsH h (paBl m mx) p).length + 4) l.length
              have hln : l.length ≠ 0 := fun e => hl (List.length_eq_zero_iff.1 e)
              have hset := outV_set h.length (paLen m mx) p ((rowsH h (paBl m mx) p).length + 4) l.length
              rw [if_pos hln] at hat
              (repeat (first | ((first | (refine And.intro ?_ ?_; focus (first | exact plain_agg (by simp only [go_sem]) | exact plain_two (by first | exact plain_agg (by simp only [go_sem]) | rfl) rfl | rfl)) | refine WA_seq (WA_region ?_) | refine WA_region ?_ | refine WA_exit ?_); try simp (maxSteps := 1000000) (disch := first | omega | rfl | decide | (simp only [List.length_cons, List.length_nil, List.length_append, Bs_length, Is_length, Vs_length, Bl_length, Il_length] <;> omega)) only [go_sem, Nat.reduceAdd, Int.reduceAdd, Int.reduceSub, Int.reduceMul, Bool.not_true, Bool.not_false, hne, hat, lit1W, sub1, Il_snoc, yieldA_at 4 54]) | refine WA_seq ?_ | refine WA_block ?_ | (refine WA_skip ?_; try simp only [go_sem]) | (refine WA_ret ?_; try simp only [go_sem]) | refine WA_ct rfl ?_ | refine WA_cf rfl ?_))
              rw [hset _ _ (by omega), show (l ++ [((q : Nat) : Int)]).length = l.length + 1 from List.length_append]
              (refine Drop_gc [0, 1, 2, 3, 6] (by first | omega | first | assumption | omega | (simp only [List.length_append, List.length_cons, List.length_nil, List.length_replicate]; omega)) (by assumption) (by decide) ?_ ?_; (focus (repeat (first | exact trivial | (refine And.intro ⟨_, rfl, ?_⟩ ?_; (focus first | (refine Fit_plain ?_; simp only [go_sem, List.all_append, List.all_cons, List.all_nil, Bool.and_self]; done) | exact Fit_nil rfl | exact Fit_dead | (refine Fit_eq ?_ ?_; (focus simp only [go_sem, List.all_append, List.all_cons, List.all_nil, Bool.and_self]); (focus (first | rfl | (simp only [Int.natCast_add, Int.natCast_one, Int.natCast_zero, Int.cast_ofNat_Int, Nat.add_zero]; done) | (simp only [Int.natCast_add, Int.natCast_one, Int.natCast_zero, Int.cast_ofNat_Int, Nat.add_zero]; rfl)))) | exact Fit_Vnil | (refine Fit_outV (i0 := 4) (by assumption) (by assumption) ?_ rfl; (focus (simp only [List.length_append, List.length_cons, List.length_nil]; omega))) | (refine Fit_outV (i0 := 0) (by assumption) (by assumption) ?_ rfl; (focus (simp only [List.length_append, List.length_cons, List.length_nil]; omega)))))))); (focus (repeat (first | exact JR_nil | refine JR_J ?_ | (refine JR_plain ?_ ?_; (focus first | rfl | (refine plain_agg ?_; simp only [go_sem, List.all_append, List.all_cons, List.all_nil, Bool.and_self]; done))) | ((first | refine JR_pt ?_ ?_ ?_ | refine JR_sl ?_ ?_ ?_); (focus first | (rw [rhoF_new0]; rfl) | (rw [rhoF_new]; rfl) | (rw [rhoF_old]; first | assumption | omega)); (focus first | assumption | omega | (simp only [List.length_append, List.length_cons, List.length_nil, List.length_replicate]; omega))) | (refine JR_plain' ?_ ?_ ?_; (focus first | rfl | (refine plain_agg ?_; simp only [go_sem, List.all_append, List.all_cons, List.all_nil, Bool.and_self]; done)); (focus (first | rfl | (simp only [Int.natCast_add, Int.natCast_one, Int.natCast_zero, Int.cast_ofNat_Int, Nat.add_zero]; done) | (simp only [Int.natCast_add, Int.natCast_one, Int.natCast_zero, Int.cast_ofNat_Int, Nat.add_zero]; rfl)))) | (refine JR_sl' ?_ ?_ ?_ ?_; (focus first | (rw [rhoF_new0]; rfl) | (rw [rhoF_new]; rfl) | (rw [rhoF_old]; first | assumption | omega)); (focus first | assumption | omega | (simp only [List.length_append, List.length_cons, List.length_nil, List.length_replicate]; omega)); (focus first | rfl | omega | (first | rfl | (simp only [Int.natCast_add, Int.natCast_one, Int.natCast_zero, Int.cast_ofNat_Int, Nat.add_zero]; done) | (simp only [Int.natCast_add, Int.natCast_one, Int.natCast_zero, Int.cast_ofNat_Int, Nat.add_zero]; rfl))))))))
          · have hne : (manyF m mx p q != 0) = false := by rw [bne_eq_false_iff_eq]; omega
            rw [if_neg hpos, hT]
            (repeat (first | ((first | (refine And.intro ?_ ?_; focus (first | exact plain_agg (by simp only [go_sem]) | exact plain_two (by first | exact plain_agg (by simp only [go_sem]) | rfl) rfl | rfl)) | refine WA_seq (WA_region ?_) | refine WA_region ?_ | refine WA_exit ?_); try simp (maxSteps := 1000000) (disch := first | omega | rfl | decide | (simp only [List.length_cons, List.length_nil, List.length_append, Bs_length, Is_length, Vs_length, Bl_length, Il_length] <;> omega)) only [go_sem, Nat.reduceAdd, Int.reduceAdd, Int.reduceSub, Int.reduceMul, Bool.not_true, Bool.not_false, hne, yieldA_at 4 54]) | refine WA_seq ?_ | refine WA_block ?_ | (refine WA_skip ?_; try simp only [go_sem]) | (refine WA_ret ?_; try simp only [go_sem]) | refine WA_ct rfl ?_ | refine WA_cf rfl ?_))
            (refine Drop_slots (by first | exact Nat.le_refl _ | (rw [List.length_append, rowsH_len]; omega)) ?_; focus ((try simp only [JL_same, JL_J, JL_nil, Int.reduceAdd, Nat.sub_sub, Int.natCast_add, Int.natCast_one, Int.natCast_zero, Int.cast_ofNat_Int, Nat.add_zero, Bool.false_eq_true, if_false, if_true]); (try exact JL_refl _)))
      · have e1 := paBl_is m mx p
        have e2 := paLen_is m mx p
        have hnz := patL_ne m mx hp
        have ho : outV h.length (paLen m mx) (p + 1) 0 0 = outV h.length (paLen m mx) p ((rowsH h (paBl m mx) p).length + 0) (patL m mx p 16).length := by
          rcases outV_next h.length (paLen m mx) p 0 with e | e
          · rw [← e, Nat.add_zero, hll, e2]
          · rw [e2] at e; exact absurd (List.length_eq_zero_iff.1 e) hnz
        rw [ptl_cons hnz, rowsH_app, rowsH_lenS, e1, ho]
        simp only [Nat.add_assoc, Nat.reduceAdd]
        generalize patL m mx p 16 = l at *
        (repeat (first | ((first | (refine And.intro ?_ ?_; focus (first | exact plain_agg (by simp only [go_sem]) | exact plain_two (by first | exact plain_agg (by simp only [go_sem]) | rfl) rfl | rfl)) | refine WA_seq (WA_region ?_) | refine WA_region ?_ | refine WA_exit ?_); try simp (maxSteps := 1000000) (disch := first | omega | rfl | decide | (simp only [List.length_cons, List.length_nil, List.length_append, Bs_length, Is_length, Vs_length, Bl_length, Il_length] <;> omega)) only [go_sem, Nat.reduceAdd, Int.reduceAdd, Int.reduceSub, Int.reduceMul, Bool.not_true, Bool.not_false, yieldA_at 4 54]) | refine WA_seq ?_ | refine WA_block ?_ | (refine WA_skip ?_; try simp only [go_sem]) | (refine WA_ret ?_; try simp only [go_sem]) | refine WA_ct rfl ?_ | refine WA_cf rfl ?_))
        (refine Drop_gc [4, 0, 1, 2, 3] (by first | omega | first | assumption | omega | (simp only [List.length_append, List.length_cons, List.length_nil, List.length_replicate]; omega)) (by assumption) (by decide) ?_ ?_; (focus (repeat (first | exact trivial | (refine And.intro ⟨_, rfl, ?_⟩ ?_; (focus first | (refine Fit_plain ?_; simp only [go_sem, List.all_append, List.all_cons, List.all_nil, Bool.and_self]; done) | exact Fit_nil rfl | exact Fit_dead | (refine Fit_eq ?_ ?_; (focus simp only [go_sem, List.all_append, List.all_cons, List.all_nil, Bool.and_self]); (focus (first | rfl | (simp only [Int.natCast_add, Int.natCast_one, Int.natCast_zero, Int.cast_ofNat_Int, Nat.add_zero]; done) | (simp only [Int.natCast_add, Int.natCast_one, Int.natCast_zero, Int.cast_ofNat_Int, Nat.add_zero]; rfl)))) | exact Fit_Vnil | (refine Fit_outV (i0 := 4) (by assumption) (by assumption) ?_ rfl; (focus (simp only [List.length_append, List.length_cons, List.length_nil]; omega))) | (refine Fit_outV (i0 := 0) (by assumption) (by assumption) ?_ rfl; (focus (simp only [List.length_append, List.length_cons, List.length_nil]; omega)))))))); (focus (repeat (first | exact JR_nil | refine JR_J ?_ | (refine JR_plain ?_ ?_; (focus first | rfl | (refine plain_agg ?_; simp only [go_sem, List.all_append, List.all_cons, List.all_nil, Bool.and_self]; done))) | ((first | refine JR_pt ?_ ?_ ?_ | refine JR_sl ?_ ?_ ?_); (focus first | (rw [rhoF_new0]; rfl) | (rw [rhoF_new]; rfl) | (rw [rhoF_old]; first | assumption | omega)); (focus first | assumption | omega | (simp only [List.length_append, List.length_cons, List.length_nil, List.length_replicate]; omega))) | (refine JR_plain' ?_ ?_ ?_; (focus first | rfl | (refine plain_agg ?_; simp only [go_sem, List.all_append, List.all_cons, List.all_nil, Bool.and_self]; done)); (focus (first | rfl | (simp only [Int.natCast_add, Int.natCast_one, Int.natCast_zero, Int.cast_ofNat_Int, Nat.add_zero]; done) | (simp only [Int.natCast_add, Int.natCast_one, Int.natCast_zero, Int.cast_ofNat_Int, Nat.add_zero]; rfl)))) | (refine JR_sl' ?_ ?_ ?_ ?_; (focus first | (rw [rhoF_new0]; rfl) | (rw [rhoF_new]; rfl) | (rw [rhoF_old]; first | assumption | omega)); (focus first | assumption | omega | (simp only [List.length_append, List.length_cons, List.length_nil, List.length_replicate]; omega)); (focus first | rfl | omega | (first | rfl | (simp only [Int.natCast_add, Int.natCast_one, Int.natCast_zero, Int.cast_ofNat_Int, Nat.add_zero]; done) | (simp only [Int.natCast_add, Int.natCast_one, Int.natCast_zero, Int.cast_ofNat_Int, Nat.add_zero]; rfl))))))))
    · (repeat (first | ((first | (refine And.intro ?_ ?_; focus (first | exact plain_agg (by simp only [go_sem]) | exact plain_two (by first | exact plain_agg (by simp only [go_sem]) | rfl) rfl | rfl)) | refine WA_seq (WA_region ?_) | refine WA_region ?_ | refine WA_exit ?_); try simp (maxSteps := 1000000) (disch := first | omega | rfl | decide | (simp only [List.length_cons, List.length_nil, List.length_append, Bs_length, Is_length, Vs_length, Bl_length, Il_length] <;> omega)) only [go_sem, Nat.reduceAdd, Int.reduceAdd, Int.reduceSub, Int.reduceMul, Bool.not_true, Bool.not_false, yieldA_at 4 54]) | refine WA_seq ?_ | refine WA_block ?_ | (refine WA_skip ?_; try simp only [go_sem]) | (refine WA_ret ?_; try simp only [go_sem]) | refine WA_ct rfl ?_ | refine WA_cf rfl ?_))
      rw [outV_end, rowsH_cut]
      ((first | refine ret_none (by first | exact .inr rfl | exact .inl rfl) ?_ | refine ret_same (by first | exact .inr rfl | exact .inl rfl) ?_ (by first | rfl | exact plain_agg (by simp only [go_sem]) | exact plain_two (by first | exact plain_agg (by simp only [go_sem]) | rfl) (by first | exact plain_agg (by simp only [go_sem]) | rfl)) | refine ret_full (by first | exact .inr rfl | exact .inl rfl) (by simp) ?_); simp (maxSteps := 1000000) (disch := first | omega | rfl | decide | (simp only [List.length_cons, List.length_nil, List.length_append, Bs_length, Is_length, Vs_length, Bl_length, Il_length] <;> omega)) only [go_sem, Nat.reduceAdd, Int.reduceAdd, Int.reduceSub, Int.reduceMul, Bool.not_true, Bool.not_false]; try rfl)
      show loadRow (h ++ ((List.range 16).map (paBl m mx) ++ [⟨Bs 16 mx, true⟩, ⟨Vs 16 (vsp h.length (paLen m mx)), true⟩, ⟨Is 256 (frF m mx), true⟩, ⟨Vs 16 (vsp h.length (paLen m mx)), true⟩]))[(rowsH h (paBl m mx) 16).length + 1]? 0 16 = _
      rw [← rowsH_cut, List.getElem?_append_right (Nat.le_add_right _ _), Nat.add_sub_cancel_left]
      exact loadV _ _

end Go.Proofs.Ytkgiocoiojdgfaa
/- Least activity: costs of sets, capped. Plain. -/
namespace Go.Proofs.Ytkgiocoiojdgfaa
set_option linter.unusedSimpArgs false
set_option linter.unusedVariables false
set_option maxRecDepth 20000
set_option maxHeartbeats 1000000
open Go.Abs

/-- A run of writes. -/
def wrR (ix : Nat → Nat) (v f : Nat → Int) : Nat → Nat → Int
  | 0 => f
  | k + 1 => upd (wrR ix v f k) (ix k) (v k)
theorem wrR_rel {R : Int → Int → Prop} {ix : Nat → Nat} {v v' f f' : Nat → Int} {t : Nat} : ∀ {n : Nat}, (∀ s, s < n → R (v s) (v' s)) → (R (f t) (f' t) ∨ ∃ s, s < n ∧ ix s = t) → R (wrR ix v f n t) (wrR ix v' f' n t)
  | 0, _, h => by
    rcases h with h | ⟨s, hs, _⟩
    · exact h
    · exact absurd hs (Nat.not_lt_zero s)
  | n + 1, hv, h => by
    show R (upd _ _ _ t) (upd _ _ _ t)
    unfold upd
    by_cases e : t = ix n
    · rw [if_pos e, if_pos e]; exact hv n (by omega)
    · rw [if_neg e, if_neg e]
      refine wrR_rel (n := n) (fun s hs => hv s (by omega)) ?_
      rcases h with h | ⟨s, hs, hx⟩
      · exact .inl h
      · refine .inr ⟨s, ?_, hx⟩
        by_cases e2 : s = n
        · subst e2; exact absurd hx.symm e
        · omega
/-- The set whose bit i is bit pl i of s. -/
def mvM (pl : Nat → UInt8) (s : Nat) : Nat → Nat
  | 0 => 0
  | i + 1 => mvM pl s i ||| ((s >>> (pl i).toNat &&& 1) <<< i)
theorem mvM_bit (pl : Nat → UInt8) (s : Nat) : ∀ n i, (mvM pl s n).testBit i = (decide (i < n) && s.testBit (pl i).toNat)
  | 0, i => by simp [mvM]
  | n + 1, i => by
    rw [mvM, Nat.testBit_or, mvM_bit pl s n i, Nat.testBit_shiftLeft, Nat.testBit_and, Nat.testBit_shiftRight]
    rcases Nat.lt_trichotomy i n with h | h | h
    · rw [decide_eq_true h, decide_eq_true (show i < n + 1 by omega), decide_eq_false (show ¬ i ≥ n by omega), Bool.false_and, Bool.or_false]
    · subst h
      rw [decide_eq_false (Nat.lt_irrefl i), decide_eq_true (show i < i + 1 by omega), decide_eq_true (show i ≥ i by omega), Nat.sub_self, Nat.add_zero, show (1 : Nat).testBit 0 = true from rfl]
      simp
    · rw [decide_eq_false (show ¬ i < n by omega), decide_eq_false (show ¬ i < n + 1 by omega), Nat.testBit_lt_two_pow (x := 1) (i := i - n) (Nat.one_lt_two_pow (by omega))]
      simp
theorem mvM_lt (pl : Nat → UInt8) (s n : Nat) : mvM pl s n < 2 ^ n := Nat.lt_pow_two_of_testBit _ fun i hi => by rw [mvM_bit, decide_eq_false (by omega), Bool.false_and]
theorem mvM_onto {pl : Nat → UInt8} (hp : plOk pl = true) {t : Nat} (ht : t < 65536) : ∃ s, s < 65536 ∧ mvM pl s 16 = t :=
  ⟨mvM (invP pl 16) t 16, mvM_lt _ _ 16, by
    refine Nat.eq_of_testBit_eq fun i => ?_
    rw [mvM_bit]
    by_cases hi : i < 16
    · rw [decide_eq_true hi, Bool.true_and, mvM_bit, decide_eq_true (plOk_lt hp hi), Bool.true_and, invP_pl hp hi, u8_ofNat_toNat (by omega)]
    · rw [decide_eq_false hi, Bool.false_and, Nat.testBit_lt_two_pow (Nat.lt_of_lt_of_le ht (show 2 ^ 16 ≤ 2 ^ i from Nat.pow_le_pow_right (by omega) (by omega)))]⟩
/-- A cost and the capped one. -/
def Cap (B U x y : Int) : Prop := 0 ≤ x ∧ x ≤ U ∧ y = (if x < 1000 then x else 1000) ∧ (x ≤ B ∨ 1000 ≤ x)
theorem Cap_min {B U x y x' y' : Int} (h : Cap B U x y) (h' : Cap B U x' y') : Cap B U (min x x') (min y y') := by
  unfold Cap at *
  obtain ⟨a1, a2, a3, a4⟩ := h
  obtain ⟨b1, b2, b3, b4⟩ := h'
  split at a3 <;> split at b3 <;> (refine ⟨by omega, by omega, ?_, by omega⟩; split <;> omega)
theorem Cap_add {B U x y b : Int} (h : Cap B U x y) (h0 : 0 ≤ b) (h1 : b ≤ 16) (hB : B + 16 < 1000) : Cap (B + 16) (U + 16) (x + b) (if y < 1000 then y + b else y) := by
  unfold Cap at *
  obtain ⟨a1, a2, a3, a4⟩ := h
  refine ⟨by omega, by omega, ?_, by omega⟩
  split at a3 <;> split <;> split <;> omega
/-- A value goes to several places, where it is less. -/
def inn (tg : Nat → Nat) (x : Int) (f : Nat → Int) : Nat → Nat → Int
  | 0 => f
  | k + 1 => upd (inn tg x f k) (tg k) (min (inn tg x f k (tg k)) x)
theorem inn_rel {B U x x' : Int} {tg : Nat → Nat} {f f' : Nat → Int} (hx : Cap B U x x') (hf : ∀ t, Cap B U (f t) (f' t)) : ∀ k t, Cap B U (inn tg x f k t) (inn tg x' f' k t)
  | 0, t => hf t
  | k + 1, t => by
    have ih := inn_rel (tg := tg) hx hf k
    show Cap B U (upd _ _ _ t) (upd _ _ _ t)
    unfold upd
    by_cases e : t = tg k
    · rw [if_pos e, if_pos e]; exact Cap_min (ih _) hx
    · rw [if_neg e, if_neg e]; exact ih t
theorem inn_skip {tg : Nat → Nat} {f : Nat → Int} (hf : ∀ t, f t ≤ 1000) : ∀ k, inn tg 1000 f k = f
  | 0 => rfl
  | k + 1 => by
    funext t
    show upd _ _ _ t = _
    rw [inn_skip hf k]
    unfold upd
    split
    · rename_i e; rw [← e]; have := hf t; omega
    · rfl
/-- All sets' values go to their places. -/
def cols (tg : Nat → Nat → Nat) (len : Nat → Nat) (v f : Nat → Int) : Nat → Nat → Int
  | 0 => f
  | s + 1 => inn (tg s) (v s) (cols tg len v f s) (len s)
theorem cols_rel {B U : Int} {tg : Nat → Nat → Nat} {len : Nat → Nat} {v v' f f' : Nat → Int} (hf : ∀ t, Cap B U (f t) (f' t)) : ∀ n, (∀ s, s < n → Cap B U (v s) (v' s)) → ∀ t, Cap B U (cols tg len v f n t) (cols tg len v' f' n t)
  | 0, _, t => hf t
  | n + 1, hv, t => inn_rel (hv n (by omega)) (cols_rel hf n fun s hs => hv s (by omega)) _ t
theorem Cap_le {B U x y : Int} (h : Cap B U x y) : y ≤ 1000 := by
  unfold Cap at h; obtain ⟨_, _, h, _⟩ := h; rw [h]; split <;> omega
end Go.Proofs.Ytkgiocoiojdgfaa
/- Least activity: bits of sets, sets moved. -/
namespace Go.Proofs.Ytkgiocoiojdgfaa
set_option linter.unusedSimpArgs false
set_option linter.unusedVariables false
set_option maxRecDepth 20000
set_option maxHeartbeats 1000000
open Go.Abs

theorem popP_far (x : Nat) : ∀ k, popP x (blen x + k) = popP x (blen x)
  | 0 => rfl
  | k + 1 => by
    rw [show blen x + (k + 1) = blen x + k + 1 by omega, popP, popP_far x k, Nat.shiftRight_add, blen_done, Nat.zero_shiftRight]
    rfl
theorem popP_16 {x : Nat} (hx : x < 65536) : popP x (blen x) = popP x 16 := by
  have hb : blen x ≤ 16 := blen_lt (by omega)
  have := popP_far x (16 - blen x)
  rw [show blen x + (16 - blen x) = 16 by omega] at this
  exact this.symm
theorem bitsS_ac {x : Nat} (hx : x < 65536) (h : List Blk) : AC Try.prog 123 [.int .i64 x] h (.int .i64 ((popP x 16 : Nat) : Int)) h := by
  have hbl : blen x ≤ 16 := blen_lt (by omega)
  (refine AC_begin (fun _ _ => Try.call123 _ _) Try.func123 rfl Try.ntmps123 Try.results123 (fun hwf => ?_); simp only [List.length_cons, List.length_nil, Nat.reduceAdd, Nat.reduceSub, List.replicate, List.cons_append, List.nil_append])
  (repeat (first | ((first | (refine And.intro ?_ ?_; focus (first | exact plain_agg (by simp only [go_sem]) | exact plain_two (by first | exact plain_agg (by simp only [go_sem]) | rfl) rfl | rfl)) | refine WA_seq (WA_region ?_) | refine WA_region ?_ | refine WA_exit ?_); try simp (maxSteps := 1000000) (disch := first | omega | rfl | decide | (simp only [List.length_cons, List.length_nil, List.length_append, Bs_length, Is_length, Vs_length, Bl_length, Il_length] <;> omega)) only [go_sem, Nat.reduceAdd, Int.reduceAdd, Int.reduceSub, Int.reduceMul, Bool.not_true, Bool.not_false]) | refine WA_seq ?_ | refine WA_block ?_ | (refine WA_skip ?_; try simp only [go_sem]) | (refine WA_ret ?_; try simp only [go_sem]) | refine WA_ct rfl ?_ | refine WA_cf rfl ?_))
  refine WA_forH (fun k => [(0, .int .i64 ((x >>> k : Nat))), (3, .int .i64 ((popP x k : Nat) : Int)), (4, J), (5, J), (6, J), (7, J), (8, J), (9, J), (10, J), (11, J)]) (fun k => h) (blen x) ?_ ?_ ?_ <;> (try simp only [patT_cons, patT_nil, patL_cons, patL_nil, list_set_zero, list_set_succ, blk_set_zero, blk_set_succ])
  · (refine Drop_slots (by first | exact Nat.le_refl _ | simp) ?_; focus ((try simp only [JL_same, JL_J, JL_nil, Int.reduceAdd, Nat.sub_sub, Int.natCast_add, Int.natCast_one, Int.natCast_zero, Int.cast_ofNat_Int, Nat.add_zero, Bool.false_eq_true, if_false, if_true, popP, Nat.shiftRight_zero]); (try exact JL_refl _)))
  · intro j hj
    have hpp := blen_pos hj
    have hs := Nat.shiftRight_le x j
    have hpl := popP_le x j
    have hm := Nat.mod_lt (x >>> j) (show 0 < 2 by omega)
    have hww := wrap_N (n := x >>> (j + 1)) (Nat.lt_of_le_of_lt (Nat.shiftRight_le x (j + 1)) (by omega))
    (repeat (first | ((first | (refine And.intro ?_ ?_; focus (first | exact plain_agg (by simp only [go_sem]) | exact plain_two (by first | exact plain_agg (by simp only [go_sem]) | rfl) rfl | rfl)) | refine WA_seq (WA_region ?_) | refine WA_region ?_ | refine WA_exit ?_); try simp (maxSteps := 1000000) (disch := first | omega | rfl | decide | (simp only [List.length_cons, List.length_nil, List.length_append, Bs_length, Is_length, Vs_length, Bl_length, Il_length] <;> omega)) only [go_sem, Nat.reduceAdd, Int.reduceAdd, Int.reduceSub, Int.reduceMul, Bool.not_true, Bool.not_false, hww]) | refine WA_seq ?_ | refine WA_block ?_ | (refine WA_skip ?_; try simp only [go_sem]) | (refine WA_ret ?_; try simp only [go_sem]) | refine WA_ct rfl ?_ | refine WA_cf rfl ?_))
    (refine Drop_slots (by first | exact Nat.le_refl _ | simp) ?_; focus ((try simp only [JL_same, JL_J, JL_nil, Int.reduceAdd, Nat.sub_sub, Int.natCast_add, Int.natCast_one, Int.natCast_zero, Int.cast_ofNat_Int, Nat.add_zero, Bool.false_eq_true, if_false, if_true, popP]); (try exact JL_refl _)))
  · rw [popP_16 hx]
    (repeat (first | ((first | (refine And.intro ?_ ?_; focus (first | exact plain_agg (by simp only [go_sem]) | exact plain_two (by first | exact plain_agg (by simp only [go_sem]) | rfl) rfl | rfl)) | refine WA_seq (WA_region ?_) | refine WA_region ?_ | refine WA_exit ?_); try simp (maxSteps := 1000000) (disch := first | omega | rfl | decide | (simp only [List.length_cons, List.length_nil, List.length_append, Bs_length, Is_length, Vs_length, Bl_length, Il_length] <;> omega)) only [go_sem, Nat.reduceAdd, Int.reduceAdd, Int.reduceSub, Int.reduceMul, Bool.not_true, Bool.not_false, blen_done]) | refine WA_seq ?_ | refine WA_block ?_ | (refine WA_skip ?_; try simp only [go_sem]) | (refine WA_ret ?_; try simp only [go_sem]) | refine WA_ct rfl ?_ | refine WA_cf rfl ?_))
    ((first | refine ret_none (by first | exact .inr rfl | exact .inl rfl) ?_ | refine ret_same (by first | exact .inr rfl | exact .inl rfl) ?_ (by first | rfl | exact plain_agg (by simp only [go_sem]) | exact plain_two (by first | exact plain_agg (by simp only [go_sem]) | rfl) (by first | exact plain_agg (by simp only [go_sem]) | rfl)) | refine ret_full (by first | exact .inr rfl | exact .inl rfl) (by simp) ?_); simp (maxSteps := 1000000) (disch := first | omega | rfl | decide | (simp only [List.length_cons, List.length_nil, List.length_append, Bs_length, Is_length, Vs_length, Bl_length, Il_length] <;> omega)) only [go_sem, Nat.reduceAdd, Int.reduceAdd, Int.reduceSub, Int.reduceMul, Bool.not_true, Bool.not_false]; try rfl)

end Go.Proofs.Ytkgiocoiojdgfaa
/- Least activity: sets moved. -/
namespace Go.Proofs.Ytkgiocoiojdgfaa
set_option linter.unusedSimpArgs false
set_option linter.unusedVariables false
set_option maxRecDepth 20000
set_option maxHeartbeats 1000000
open Go.Abs

theorem bit_shl {v i : Nat} (hv : v ≤ 1) (h : i ≤ 60) : IntKind.i64.wrap (((v : Nat) : Int) * 2 ^ min i 64) = ((v <<< i : Nat) : Int) := by
  have hp : 2 ^ i ≤ 2 ^ 60 := Nat.pow_le_pow_right (by omega) h
  rw [Nat.min_eq_left (by omega), pow_cast, ← Int.natCast_mul, Nat.shiftLeft_eq]
  refine wrap_N ?_
  exact Nat.lt_of_le_of_lt (Nat.mul_le_mul hv hp) (by omega)
theorem shr_any {x : Nat} (hx : x < 65536) (p : Nat) : ((x : Nat) : Int).fdiv (2 ^ min p 64) = ((x >>> p : Nat) : Int) := by
  rw [pow_cast, Int.fdiv_eq_ediv_of_nonneg _ (Int.natCast_nonneg _), ← Int.natCast_ediv, Nat.shiftRight_eq_div_pow]
  by_cases hp : p ≤ 64
  · rw [Nat.min_eq_left hp]
  · have h2 : 2 ^ 64 ≤ 2 ^ p := Nat.pow_le_pow_right (by omega) (by omega)
    rw [Nat.min_eq_right (by omega), Nat.div_eq_of_lt (by omega), Nat.div_eq_of_lt (by omega)]
theorem mvM_set (pl : Nat → UInt8) (s i : Nat) : mvM pl s i ||| ((s >>> (pl i).toNat &&& 1) <<< i) = mvM pl s (i + 1) := rfl
attribute [local irreducible] mvM
theorem movI_ac (pl : Nat → UInt8) {x : Nat} (hx : x < 65536) (h : List Blk) : AC Try.prog 128 [.agg (Bs 16 pl).toArray, .int .i64 x] h (.int .i64 ((mvM pl x 16 : Nat) : Int)) h := by
  (refine AC_begin (fun _ _ => Try.call128 _ _) Try.func128 rfl Try.ntmps128 Try.results128 (fun hwf => ?_); simp only [List.length_cons, List.length_nil, Nat.reduceAdd, Nat.reduceSub, List.replicate, List.cons_append, List.nil_append])
  (repeat (first | ((first | (refine And.intro ?_ ?_; focus (first | exact plain_agg (by simp only [go_sem]) | exact plain_two (by first | exact plain_agg (by simp only [go_sem]) | rfl) rfl | rfl)) | refine WA_seq (WA_region ?_) | refine WA_region ?_ | refine WA_exit ?_); try simp (maxSteps := 1000000) (disch := first | omega | rfl | decide | (simp only [List.length_cons, List.length_nil, List.length_append, Bs_length, Is_length, Vs_length, Bl_length, Il_length] <;> omega)) only [go_sem, Nat.reduceAdd, Int.reduceAdd, Int.reduceSub, Int.reduceMul, Bool.not_true, Bool.not_false]) | refine WA_seq ?_ | refine WA_block ?_ | (refine WA_skip ?_; try simp only [go_sem]) | (refine WA_ret ?_; try simp only [go_sem]) | refine WA_ct rfl ?_ | refine WA_cf rfl ?_))
  refine WA_forP (fun k => [(5, .int .i64 ((mvM pl x k : Nat) : Int)), (6, J), (7, J), (9, .int .i64 k), (10, J), (11, J), (12, J), (13, J), (14, J), (15, J), (16, J), (17, J), (18, J), (19, J), (20, J), (21, J)]) (fun k => [(0, ⟨Bs 16 pl, true⟩)]) (16) ?_ ?_ ?_ <;> (try simp only [patT_cons, patT_nil, patL_cons, patL_nil, list_set_zero, list_set_succ, blk_set_zero, blk_set_succ])
  · (refine Drop_slots (by first | exact Nat.le_refl _ | simp) ?_; focus ((try simp only [JL_same, JL_J, JL_nil, Int.reduceAdd, Nat.sub_sub, Int.natCast_add, Int.natCast_one, Int.natCast_zero, Int.cast_ofNat_Int, Nat.add_zero, Bool.false_eq_true, if_false, if_true, mvM]); (try exact JL_refl _)))
  · intro i hi
    have hs := Nat.shiftRight_le x (pl i).toNat
    have hv : x >>> (pl i).toNat &&& 1 ≤ 1 := Nat.and_le_right
    have h1 : bits .and .i64 ((x >>> (pl i).toNat : Nat) : Int) 1 = ((x >>> (pl i).toNat &&& 1 : Nat) : Int) := bits_and_N (a := x >>> (pl i).toNat) (b := 1) (by omega) (by omega)
    have h0 := shr_any hx (pl i).toNat
    have h2 := bit_shl hv (show i ≤ 60 by omega)
    have hm := Nat.lt_of_lt_of_le (mvM_lt pl x i) (Nat.pow_le_pow_right (n := 2) (by omega) (show i ≤ 16 by omega))
    have hm2 := Nat.lt_of_lt_of_le (mvM_lt pl x (i + 1)) (Nat.pow_le_pow_right (n := 2) (by omega) (show i + 1 ≤ 16 by omega))
    have hq : (x >>> (pl i).toNat &&& 1) <<< i < 9223372036854775808 := by
      rw [Nat.shiftLeft_eq]
      exact Nat.lt_of_le_of_lt (Nat.mul_le_mul hv (Nat.pow_le_pow_right (n := 2) (by omega) (show i ≤ 60 by omega))) (by omega)
    have h3 := bits_or_N (a := mvM pl x i) (b := (x >>> (pl i).toNat &&& 1) <<< i) (by omega) hq
    rw [mvM_set] at h3
    have h4 := wrap_N hq
    (repeat (first | ((first | (refine And.intro ?_ ?_; focus (first | exact plain_agg (by simp only [go_sem]) | exact plain_two (by first | exact plain_agg (by simp only [go_sem]) | rfl) rfl | rfl)) | refine WA_seq (WA_region ?_) | refine WA_region ?_ | refine WA_exit ?_); try simp (maxSteps := 1000000) (disch := first | omega | rfl | decide | (simp only [List.length_cons, List.length_nil, List.length_append, Bs_length, Is_length, Vs_length, Bl_length, Il_length] <;> omega)) only [go_sem, Nat.reduceAdd, Int.reduceAdd, Int.reduceSub, Int.reduceMul, Bool.not_true, Bool.not_false, h0, h1, h2, h4, h3]) | refine WA_seq ?_ | refine WA_block ?_ | (refine WA_skip ?_; try simp only [go_sem]) | (refine WA_ret ?_; try simp only [go_sem]) | refine WA_ct rfl ?_ | refine WA_cf rfl ?_))
    (refine Drop_slots (by first | exact Nat.le_refl _ | simp) ?_; focus ((try simp only [JL_same, JL_J, JL_nil, Int.reduceAdd, Nat.sub_sub, Int.natCast_add, Int.natCast_one, Int.natCast_zero, Int.cast_ofNat_Int, Nat.add_zero, Bool.false_eq_true, if_false, if_true]); (try exact JL_refl _)))
  · (repeat (first | ((first | (refine And.intro ?_ ?_; focus (first | exact plain_agg (by simp only [go_sem]) | exact plain_two (by first | exact plain_agg (by simp only [go_sem]) | rfl) rfl | rfl)) | refine WA_seq (WA_region ?_) | refine WA_region ?_ | refine WA_exit ?_); try simp (maxSteps := 1000000) (disch := first | omega | rfl | decide | (simp only [List.length_cons, List.length_nil, List.length_append, Bs_length, Is_length, Vs_length, Bl_length, Il_length] <;> omega)) only [go_sem, Nat.reduceAdd, Int.reduceAdd, Int.reduceSub, Int.reduceMul, Bool.not_true, Bool.not_false]) | refine WA_seq ?_ | refine WA_block ?_ | (refine WA_skip ?_; try simp only [go_sem]) | (refine WA_ret ?_; try simp only [go_sem]) | refine WA_ct rfl ?_ | refine WA_cf rfl ?_))
    ((first | refine ret_none (by first | exact .inr rfl | exact .inl rfl) ?_ | refine ret_same (by first | exact .inr rfl | exact .inl rfl) ?_ (by first | rfl | exact plain_agg (by simp only [go_sem]) | exact plain_two (by first | exact plain_agg (by simp only [go_sem]) | rfl) (by first | exact plain_agg (by simp only [go_sem]) | rfl)) | refine ret_full (by first | exact .inr rfl | exact .inl rfl) (by simp) ?_); simp (maxSteps := 1000000) (disch := first | omega | rfl | decide | (simp only [List.length_cons, List.length_nil, List.length_append, Bs_length, Is_length, Vs_length, Bl_length, Il_length] <;> omega)) only [go_sem, Nat.reduceAdd, Int.reduceAdd, Int.reduceSub, Int.reduceMul, Bool.not_true, Bool.not_false]; try rfl)

end Go.Proofs.Ytkgiocoiojdgfaa
/- Least activity: the least of a list. -/
namespace Go.Proofs.Ytkgiocoiojdgfaa
set_option linter.unusedSimpArgs false
set_option linter.unusedVariables false
set_option maxRecDepth 20000
set_option maxHeartbeats 1000000
open Go.Abs

/-- The least of the first k + 1. -/
def mnF (g : Nat → Int) : Nat → Int
  | 0 => g 0
  | k + 1 => if g (k + 1) < mnF g k then g (k + 1) else mnF g k
/-- The model's min of two. -/
theorem min_if (x y : Int) : (if y < x then y else x) = min x y := by split <;> omega
theorem mnF_le (g : Nat → Int) : ∀ n k, k ≤ n → mnF g n ≤ g k
  | 0, k, h => by rw [show k = 0 by omega]; exact Int.le_refl _
  | n + 1, k, h => by
    unfold mnF
    by_cases e : k = n + 1
    · subst e; split <;> omega
    · have := mnF_le g n k (by omega)
      split <;> omega
theorem minI_ac {h : List Blk} {b n : Nat} {g : Nat → Int} {r : Bool} (hb : h[b]? = some ⟨Is (n + 1) g, r⟩) (hn : n + 1 ≤ 65536) : AC Try.prog 130 [sl b 0 (n + 1) 1] h (.int .i64 (mnF g n)) h := by
  have hbl := blt hb
  (refine AC_begin (fun _ _ => Try.call130 _ _) Try.func130 rfl Try.ntmps130 Try.results130 (fun hwf => ?_); simp only [List.length_cons, List.length_nil, Nat.reduceAdd, Nat.reduceSub, List.replicate, List.cons_append, List.nil_append])
  (repeat (first | ((first | (refine And.intro ?_ ?_; focus (first | exact plain_agg (by simp only [go_sem]) | exact plain_two (by first | exact plain_agg (by simp only [go_sem]) | rfl) rfl | rfl)) | refine WA_seq (WA_region ?_) | refine WA_region ?_ | refine WA_exit ?_); try simp (maxSteps := 1000000) (disch := first | omega | rfl | decide | (simp only [List.length_cons, List.length_nil, List.length_append, Bs_length, Is_length, Vs_length, Bl_length, Il_length] <;> omega)) only [go_sem, Nat.reduceAdd, Int.reduceAdd, Int.reduceSub, Int.reduceMul, Bool.not_true, Bool.not_false, hb]) | refine WA_seq ?_ | refine WA_block ?_ | (refine WA_skip ?_; try simp only [go_sem]) | (refine WA_ret ?_; try simp only [go_sem]) | refine WA_ct rfl ?_ | refine WA_cf rfl ?_))
  refine WA_forH (fun k => [(3, .int .i64 (mnF g k)), (4, .int .i64 ((k + 1 : Nat) : Int)), (12, J), (13, J), (14, J), (15, J), (16, J), (17, J), (18, J), (19, J), (20, J), (21, J), (22, J), (23, J)]) (fun k => h) (n) ?_ ?_ ?_ <;> (try simp only [patT_cons, patT_nil, patL_cons, patL_nil, list_set_zero, list_set_succ, blk_set_zero, blk_set_succ])
  · (refine Drop_slots (by first | exact Nat.le_refl _ | simp) ?_; focus ((try simp only [JL_same, JL_J, JL_nil, Int.reduceAdd, Nat.sub_sub, Int.natCast_add, Int.natCast_one, Int.natCast_zero, Int.cast_ofNat_Int, Nat.add_zero, Bool.false_eq_true, if_false, if_true, mnF]); (try exact JL_refl _)))
  · intro k hk
    (repeat (first | ((first | (refine And.intro ?_ ?_; focus (first | exact plain_agg (by simp only [go_sem]) | exact plain_two (by first | exact plain_agg (by simp only [go_sem]) | rfl) rfl | rfl)) | refine WA_seq (WA_region ?_) | refine WA_region ?_ | refine WA_exit ?_); try simp (maxSteps := 1000000) (disch := first | omega | rfl | decide | (simp only [List.length_cons, List.length_nil, List.length_append, Bs_length, Is_length, Vs_length, Bl_length, Il_length] <;> omega)) only [go_sem, Nat.reduceAdd, Int.reduceAdd, Int.reduceSub, Int.reduceMul, Bool.not_true, Bool.not_false, hb]) | refine WA_seq ?_ | refine WA_block ?_ | (refine WA_skip ?_; try simp only [go_sem]) | (refine WA_ret ?_; try simp only [go_sem]) | refine WA_ct rfl ?_ | refine WA_cf rfl ?_))
    (refine Drop_slots (by first | exact Nat.le_refl _ | simp) ?_; focus ((try simp only [JL_same, JL_J, JL_nil, Int.reduceAdd, Nat.sub_sub, Int.natCast_add, Int.natCast_one, Int.natCast_zero, Int.cast_ofNat_Int, Nat.add_zero, Bool.false_eq_true, if_false, if_true, mnF]); (try exact JL_refl _)))
  · (repeat (first | ((first | (refine And.intro ?_ ?_; focus (first | exact plain_agg (by simp only [go_sem]) | exact plain_two (by first | exact plain_agg (by simp only [go_sem]) | rfl) rfl | rfl)) | refine WA_seq (WA_region ?_) | refine WA_region ?_ | refine WA_exit ?_); try simp (maxSteps := 1000000) (disch := first | omega | rfl | decide | (simp only [List.length_cons, List.length_nil, List.length_append, Bs_length, Is_length, Vs_length, Bl_length, Il_length] <;> omega)) only [go_sem, Nat.reduceAdd, Int.reduceAdd, Int.reduceSub, Int.reduceMul, Bool.not_true, Bool.not_false]) | refine WA_seq ?_ | refine WA_block ?_ | (refine WA_skip ?_; try simp only [go_sem]) | (refine WA_ret ?_; try simp only [go_sem]) | refine WA_ct rfl ?_ | refine WA_cf rfl ?_))
    ((first | refine ret_none (by first | exact .inr rfl | exact .inl rfl) ?_ | refine ret_same (by first | exact .inr rfl | exact .inl rfl) ?_ (by first | rfl | exact plain_agg (by simp only [go_sem]) | exact plain_two (by first | exact plain_agg (by simp only [go_sem]) | rfl) (by first | exact plain_agg (by simp only [go_sem]) | rfl)) | refine ret_full (by first | exact .inr rfl | exact .inl rfl) (by simp) ?_); simp (maxSteps := 1000000) (disch := first | omega | rfl | decide | (simp only [List.length_cons, List.length_nil, List.length_append, Bs_length, Is_length, Vs_length, Bl_length, Il_length] <;> omega)) only [go_sem, Nat.reduceAdd, Int.reduceAdd, Int.reduceSub, Int.reduceMul, Bool.not_true, Bool.not_false]; try rfl)

end Go.Proofs.Ytkgiocoiojdgfaa
/- Least activity: ones of a set, counted by the library. -/
namespace Go.Proofs.Ytkgiocoiojdgfaa
set_option linter.unusedSimpArgs false
set_option linter.unusedVariables false
set_option maxRecDepth 20000
set_option maxHeartbeats 1000000
open Go.Abs

/-- The steps of the count of ones. -/
def oc1 (x : Nat) : Nat := (x >>> 1 &&& 6148914691236517205) + (x &&& 6148914691236517205)
def oc2 (x : Nat) : Nat := (x >>> 2 &&& 3689348814741910323) + (x &&& 3689348814741910323)
def oc3 (x : Nat) : Nat := (x >>> 4 + x) &&& 1085102592571150095
def oc4 (x : Nat) : Nat := x + x >>> 8
def oc5 (x : Nat) : Nat := x + x >>> 16
def oc6 (x : Nat) : Nat := x + x >>> 32
def oc (x : Nat) : Nat := oc6 (oc5 (oc4 (oc3 (oc2 (oc1 x))))) &&& 127
def allB (f : Nat → Bool) : Nat → Bool
  | 0 => true
  | k + 1 => match f k with | true => allB f k | false => false
theorem allB_at {f : Nat → Bool} : ∀ {n : Nat}, allB f n = true → ∀ k, k < n → f k = true
  | 0, _, k, hk => absurd hk (Nat.not_lt_zero k)
  | n + 1, h, k, hk => by
    unfold allB at h
    cases e : f n <;> rw [e] at h
    · exact absurd h (by simp)
    · by_cases e2 : k = n
      · rw [e2, e]
      · exact allB_at (n := n) h k (by omega)
theorem oc_8 : allB (fun a => allB (fun b => Nat.beq (oc (Nat.add (Nat.mul 256 a) b)) (Nat.add (oc a) (oc b))) 256) 256 = true := by decide +kernel
theorem oc_b : allB (fun b => Nat.beq (oc b) (popP b 8)) 256 = true := by decide +kernel
theorem popP_cut {a b : Nat} (hb : b < 256) : popP (256 * a + b) 16 = popP a 8 + popP b 8 := by
  simp only [popP, Nat.shiftRight_eq_div_pow, Nat.reducePow]
  rw [show (256 * a + b) / 1 % 2 = b / 1 % 2 by omega]
  rw [show (256 * a + b) / 2 % 2 = b / 2 % 2 by omega]
  rw [show (256 * a + b) / 4 % 2 = b / 4 % 2 by omega]
  rw [show (256 * a + b) / 8 % 2 = b / 8 % 2 by omega]
  rw [show (256 * a + b) / 16 % 2 = b / 16 % 2 by omega]
  rw [show (256 * a + b) / 32 % 2 = b / 32 % 2 by omega]
  rw [show (256 * a + b) / 64 % 2 = b / 64 % 2 by omega]
  rw [show (256 * a + b) / 128 % 2 = b / 128 % 2 by omega]
  rw [show (256 * a + b) / 256 = a / 1 by omega]
  rw [show (256 * a + b) / 512 = a / 2 by omega]
  rw [show (256 * a + b) / 1024 = a / 4 by omega]
  rw [show (256 * a + b) / 2048 = a / 8 by omega]
  rw [show (256 * a + b) / 4096 = a / 16 by omega]
  rw [show (256 * a + b) / 8192 = a / 32 by omega]
  rw [show (256 * a + b) / 16384 = a / 64 by omega]
  rw [show (256 * a + b) / 32768 = a / 128 by omega]
  generalize a / 1 % 2 = a0
  generalize a / 2 % 2 = a1
  generalize a / 4 % 2 = a2
  generalize a / 8 % 2 = a3
  generalize a / 16 % 2 = a4
  generalize a / 32 % 2 = a5
  generalize a / 64 % 2 = a6
  generalize a / 128 % 2 = a7
  generalize b / 1 % 2 = b0
  generalize b / 2 % 2 = b1
  generalize b / 4 % 2 = b2
  generalize b / 8 % 2 = b3
  generalize b / 16 % 2 = b4
  generalize b / 32 % 2 = b5
  generalize b / 64 % 2 = b6
  generalize b / 128 % 2 = b7
  omega
theorem oc_pop {x : Nat} (hx : x < 65536) : oc x = popP x 16 := by
  have h := Nat.eq_of_beq_eq_true (allB_at (allB_at oc_8 (x / 256) (by omega)) (x % 256) (Nat.mod_lt _ (by omega)))
  have ha := Nat.eq_of_beq_eq_true (allB_at oc_b (x / 256) (by omega))
  have hb := Nat.eq_of_beq_eq_true (allB_at oc_b (x % 256) (Nat.mod_lt _ (by omega)))
  have e : 256 * (x / 256) + x % 256 = x := by omega
  have hc := popP_cut (a := x / 256) (b := x % 256) (Nat.mod_lt _ (by omega))
  rw [e] at hc
  have h' : oc x = Nat.add (oc (x / 256)) (oc (x % 256)) := by
    have : Nat.add (Nat.mul 256 (x / 256)) (x % 256) = x := e
    rw [this] at h; exact h
  rw [h', ha, hb, hc]; rfl
theorem bits_and_U {a b : Nat} (ha : a < 18446744073709551616) (hb : b < 18446744073709551616) : bits .and .u64 (a : Int) (b : Int) = ((a &&& b : Nat) : Int) := by
  have hx : a &&& b < 2 ^ 64 := Nat.and_lt_two_pow _ (by omega)
  show IntKind.u64.wrap ((BitVec.ofInt 64 (a : Int) &&& BitVec.ofInt 64 (b : Int)).toNat : Int) = _
  rw [BitVec.toNat_and, ofInt64_nat (by omega), ofInt64_nat (by omega), wrap_u64 (by omega) (by omega)]
theorem bits_and_LU {a n : Nat} (ha : a < 18446744073709551616) (hb : OfNat.ofNat n < 18446744073709551616) : bits .and .u64 (a : Int) (no_index (OfNat.ofNat n)) = ((a &&& OfNat.ofNat n : Nat) : Int) := bits_and_U (b := OfNat.ofNat n) ha hb
theorem wrap_U {n : Nat} (h : n < 18446744073709551616) : IntKind.u64.wrap (n : Int) = n := wrap_u64 (by omega) (by omega)
theorem and_le (a b : Nat) : a &&& b ≤ a := Nat.and_le_left
theorem oc1_le (x : Nat) : oc1 x ≤ 2 * x := by
  have h1 := and_le (x >>> 1) 6148914691236517205
  have h2 := and_le x 6148914691236517205
  have h3 := Nat.shiftRight_le x 1
  unfold oc1; omega
theorem oc2_le (x : Nat) : oc2 x ≤ 2 * x := by
  have h1 := and_le (x >>> 2) 3689348814741910323
  have h2 := and_le x 3689348814741910323
  have h3 := Nat.shiftRight_le x 2
  unfold oc2; omega
theorem oc3_le (x : Nat) : oc3 x ≤ 2 * x := by
  have h1 := and_le (x >>> 4 + x) 1085102592571150095
  have h3 := Nat.shiftRight_le x 4
  unfold oc3; omega
theorem oc4_le (x : Nat) : oc4 x ≤ 2 * x := by
  have h3 := Nat.shiftRight_le x 8
  unfold oc4; omega
theorem oc5_le (x : Nat) : oc5 x ≤ 2 * x := by
  have h3 := Nat.shiftRight_le x 16
  unfold oc5; omega
theorem oc6_le (x : Nat) : oc6 x ≤ 2 * x := by
  have h3 := Nat.shiftRight_le x 32
  unfold oc6; omega
theorem st1 {x : Nat} (hx : x < 65536) : IntKind.u64.wrap (bits .and .u64 ((x >>> 1 : Nat) : Int) 6148914691236517205 + bits .and .u64 (x : Int) 6148914691236517205) = ((oc1 x : Nat) : Int) := by
  have h3 := Nat.shiftRight_le x 1
  have hl := oc1_le x
  rw [bits_and_LU (a := x >>> 1) (n := 6148914691236517205) (by omega) (by decide), bits_and_LU (a := x) (n := 6148914691236517205) (by omega) (by decide), ← Int.natCast_add]
  exact wrap_U (n := oc1 x) (by omega)
theorem st2 {x : Nat} (hx : x < 1000000) : IntKind.u64.wrap (bits .and .u64 ((x >>> 2 : Nat) : Int) 3689348814741910323 + bits .and .u64 (x : Int) 3689348814741910323) = ((oc2 x : Nat) : Int) := by
  have h3 := Nat.shiftRight_le x 2
  have hl := oc2_le x
  rw [bits_and_LU (a := x >>> 2) (n := 3689348814741910323) (by omega) (by decide), bits_and_LU (a := x) (n := 3689348814741910323) (by omega) (by decide), ← Int.natCast_add]
  exact wrap_U (n := oc2 x) (by omega)
theorem st3 {x : Nat} (hx : x < 1000000) : bits .and .u64 ((x >>> 4 + x : Nat) : Int) 1085102592571150095 = ((oc3 x : Nat) : Int) := by
  have h3 := Nat.shiftRight_le x 4
  exact bits_and_LU (a := x >>> 4 + x) (n := 1085102592571150095) (by omega) (by decide)
theorem oc64_ac {x : Nat} (hx : x < 65536) (h : List Blk) : AC Try.prog 201 [.int .u64 x] h (.int .i64 ((popP x 16 : Nat) : Int)) h := by
  have l1 := oc1_le x
  have l2 := oc2_le (oc1 x)
  have l3 := oc3_le (oc2 (oc1 x))
  have l4 := oc4_le (oc3 (oc2 (oc1 x)))
  have l5 := oc5_le (oc4 (oc3 (oc2 (oc1 x))))
  have l6 := oc6_le (oc5 (oc4 (oc3 (oc2 (oc1 x)))))
  have hp : oc6 (oc5 (oc4 (oc3 (oc2 (oc1 x))))) &&& 127 = popP x 16 := oc_pop hx
  simp only [oc6, oc5, oc4] at hp l4 l5 l6
  have s1 := st1 hx
  have s2 := st2 (x := oc1 x) (by omega)
  have s3 := st3 (x := oc2 (oc1 x)) (by omega)
  generalize oc3 (oc2 (oc1 x)) = y3 at *
  generalize oc2 (oc1 x) = y2 at *
  generalize oc1 x = y1 at *
  (refine AC_begin (fun _ _ => Try.call201 _ _) Try.func201 rfl Try.ntmps201 Try.results201 (fun hwf => ?_); simp only [List.length_cons, List.length_nil, Nat.reduceAdd, Nat.reduceSub, List.replicate, List.cons_append, List.nil_append])
  (repeat (first | ((first | (refine And.intro ?_ ?_; focus (first | exact plain_agg (by simp only [go_sem]) | exact plain_two (by first | exact plain_agg (by simp only [go_sem]) | rfl) rfl | rfl)) | refine WA_seq (WA_region ?_) | refine WA_region ?_ | refine WA_exit ?_); try simp (maxSteps := 1000000) (disch := first | omega | rfl | decide | (simp only [List.length_cons, List.length_nil, List.length_append, Bs_length, Is_length, Vs_length, Bl_length, Il_length] <;> omega)) only [go_sem, Nat.reduceAdd, Int.reduceAdd, Int.reduceSub, Int.reduceMul, Bool.not_true, Bool.not_false, s1, s2, s3, hp]) | refine WA_seq ?_ | refine WA_block ?_ | (refine WA_skip ?_; try simp only [go_sem]) | (refine WA_ret ?_; try simp only [go_sem]) | refine WA_ct rfl ?_ | refine WA_cf rfl ?_))
  ((first | refine ret_none (by first | exact .inr rfl | exact .inl rfl) ?_ | refine ret_same (by first | exact .inr rfl | exact .inl rfl) ?_ (by first | rfl | exact plain_agg (by simp only [go_sem]) | exact plain_two (by first | exact plain_agg (by simp only [go_sem]) | rfl) (by first | exact plain_agg (by simp only [go_sem]) | rfl)) | refine ret_full (by first | exact .inr rfl | exact .inl rfl) (by simp) ?_); simp (maxSteps := 1000000) (disch := first | omega | rfl | decide | (simp only [List.length_cons, List.length_nil, List.length_append, Bs_length, Is_length, Vs_length, Bl_length, Il_length] <;> omega)) only [go_sem, Nat.reduceAdd, Int.reduceAdd, Int.reduceSub, Int.reduceMul, Bool.not_true, Bool.not_false, hp]; try rfl)

theorem ocU_ac {x : Nat} (hx : x < 65536) (h : List Blk) : AC Try.prog 126 [.int .u64 x] h (.int .i64 ((popP x 16 : Nat) : Int)) h := by
  (refine AC_begin (fun _ _ => Try.call126 _ _) Try.func126 rfl Try.ntmps126 Try.results126 (fun hwf => ?_); simp only [List.length_cons, List.length_nil, Nat.reduceAdd, Nat.reduceSub, List.replicate, List.cons_append, List.nil_append])
  (repeat (first | ((first | (refine And.intro ?_ ?_; focus (first | exact plain_agg (by simp only [go_sem]) | exact plain_two (by first | exact plain_agg (by simp only [go_sem]) | rfl) rfl | rfl)) | ((first | with_reducible apply callB_i | with_reducible apply callK_intro | with_reducible apply callQ_i); (focus (first | assumption | (with_reducible apply oc64_ac hx <;> (first | assumption | rfl | (simp (disch := omega) only [go_sem]; first | done | rfl) | omega | decide | (simp; done))))); (try (focus (refine WP.mk ?_ ?_; (focus ((repeat (first | exact trivial | (refine And.intro ?_ ?_; (focus first | exact plainV_wf rfl | (refine plainV_wf (plain_agg ?_); simp only [go_sem]; done) | (simp only [wfV, wf1, wfC, List.length_append, List.length_cons, List.length_nil]; omega))))))); (focus (first | rfl | (refine plain_agg ?_; simp only [go_sem]; done) | (refine plain_two ?_ ?_ <;> first | rfl | (refine plain_agg ?_; simp only [go_sem]; done)))))))) | refine WA_seq (WA_region ?_) | refine WA_region ?_ | refine WA_exit ?_); try simp (maxSteps := 1000000) (disch := first | omega | rfl | decide | (simp only [List.length_cons, List.length_nil, List.length_append, Bs_length, Is_length, Vs_length, Bl_length, Il_length] <;> omega)) only [go_sem, Nat.reduceAdd, Int.reduceAdd, Int.reduceSub, Int.reduceMul, Bool.not_true, Bool.not_false]) | refine WA_seq ?_ | refine WA_block ?_ | (refine WA_skip ?_; try simp only [go_sem]) | (refine WA_ret ?_; try simp only [go_sem]) | refine WA_ct rfl ?_ | refine WA_cf rfl ?_))
  ((first | refine ret_none (by first | exact .inr rfl | exact .inl rfl) ?_ | refine ret_same (by first | exact .inr rfl | exact .inl rfl) ?_ (by first | rfl | exact plain_agg (by simp only [go_sem]) | exact plain_two (by first | exact plain_agg (by simp only [go_sem]) | rfl) (by first | exact plain_agg (by simp only [go_sem]) | rfl)) | refine ret_full (by first | exact .inr rfl | exact .inl rfl) (by simp) ?_); simp (maxSteps := 1000000) (disch := first | omega | rfl | decide | (simp only [List.length_cons, List.length_nil, List.length_append, Bs_length, Is_length, Vs_length, Bl_length, Il_length] <;> omega)) only [go_sem, Nat.reduceAdd, Int.reduceAdd, Int.reduceSub, Int.reduceMul, Bool.not_true, Bool.not_false]; try rfl)

end Go.Proofs.Ytkgiocoiojdgfaa
/- Least activity: a list of one number many times. -/
namespace Go.Proofs.Ytkgiocoiojdgfaa
set_option linter.unusedSimpArgs false
set_option linter.unusedVariables false
set_option maxRecDepth 20000
set_option maxHeartbeats 1000000
open Go.Abs

/-- The first n are c. -/
def rpF (c : Int) (n : Nat) : Nat → Int := fun i => if i < n then c else 0
theorem rpF_lt {c : Int} {n i : Nat} (h : i < n) : rpF c n i = c := if_pos h
theorem rpF_ge {c : Int} {n i : Nat} (h : ¬ i < n) : rpF c n i = 0 := if_neg h
theorem rp_step {c : Int} {N n : Nat} (h : n + n ≤ N) : splice (Is N (rpF c n)) n (Is n fun i => rpF c n i) = Is N (rpF c (n + n)) := by
  apply List.ext_getElem?
  intro i
  rw [splice_get (by rw [Is_length, Is_length]; exact h), Is_length]
  by_cases hi : i < N
  · rw [Is_get hi, Is_get hi]
    by_cases h1 : n ≤ i ∧ i < n + n
    · rw [if_pos h1, Is_get (by omega), rpF_lt (by omega), rpF_lt (by omega)]
    · rw [if_neg h1]
      by_cases h2 : i < n
      · rw [rpF_lt h2, rpF_lt (by omega)]
      · rw [rpF_ge h2, rpF_ge (by omega)]
  · rw [if_neg (by omega), List.getElem?_eq_none (by rw [Is_length]; omega), List.getElem?_eq_none (by rw [Is_length]; omega)]
theorem rp_one {c : Int} {N : Nat} (h : 1 ≤ N) : splice (Is N fun _ => 0) 0 (Is 1 fun _ => c) = Is N (rpF c 1) := by
  apply List.ext_getElem?
  intro i
  rw [splice_get (by rw [Is_length, Is_length]; omega), Is_length]
  by_cases hi : i < N
  · rw [Is_get hi, Is_get hi]
    by_cases h1 : i < 1
    · rw [if_pos (by omega), Is_get (by omega), rpF_lt h1]
    · rw [if_neg (by omega), rpF_ge h1]
  · rw [if_neg (by omega), List.getElem?_eq_none (by rw [Is_length]; omega), List.getElem?_eq_none (by rw [Is_length]; omega)]
theorem rp_all (c : Int) (N : Nat) : Is N (rpF c N) = Is N fun _ => c := Is_congr fun i hi => if_pos hi
theorem mul64_ac (h : List Blk) : AC Try.prog 218 [.int .u64 1, .int .u64 65536] h (.tuple #[.int .u64 0, .int .u64 65536]) h := by
  have f1 : bits .and .u64 1 4294967295 = 1 := by decide +kernel
  have f2 : bits .and .u64 65536 4294967295 = 65536 := by decide +kernel
  have f3 : Int.fdiv 1 (2 ^ min 32 64) = 0 := by decide +kernel
  have f4 : Int.fdiv 65536 (2 ^ min 32 64) = 0 := by decide +kernel
  have f5 : bits .and .u64 0 4294967295 = 0 := by decide +kernel
  have f6 : Int.fdiv 0 (2 ^ min 32 64) = 0 := by decide +kernel
  (refine AC_begin (fun _ _ => Try.call218 _ _) Try.func218 rfl Try.ntmps218 Try.results218 (fun hwf => ?_); simp only [List.length_cons, List.length_nil, Nat.reduceAdd, Nat.reduceSub, List.replicate, List.cons_append, List.nil_append])
  (repeat (first | ((first | (refine And.intro ?_ ?_; focus (first | exact plain_agg (by simp only [go_sem]) | exact plain_two (by first | exact plain_agg (by simp only [go_sem]) | rfl) rfl | rfl)) | refine WA_seq (WA_region ?_) | refine WA_region ?_ | refine WA_exit ?_); try simp (maxSteps := 1000000) (disch := first | omega | rfl | decide | (simp only [List.length_cons, List.length_nil, List.length_append, Bs_length, Is_length, Vs_length, Bl_length, Il_length] <;> omega)) only [go_sem, Nat.reduceAdd, Int.reduceAdd, Int.reduceSub, Int.reduceMul, Bool.not_true, Bool.not_false, f1, f2, f3, f4, f5, f6]) | refine WA_seq ?_ | refine WA_block ?_ | (refine WA_skip ?_; try simp only [go_sem]) | (refine WA_ret ?_; try simp only [go_sem]) | refine WA_ct rfl ?_ | refine WA_cf rfl ?_))
  ((first | refine ret_none (by first | exact .inr rfl | exact .inl rfl) ?_ | refine ret_same (by first | exact .inr rfl | exact .inl rfl) ?_ (by first | rfl | exact plain_agg (by simp only [go_sem]) | exact plain_two (by first | exact plain_agg (by simp only [go_sem]) | rfl) (by first | exact plain_agg (by simp only [go_sem]) | rfl)) | refine ret_full (by first | exact .inr rfl | exact .inl rfl) (by simp) ?_); simp (maxSteps := 1000000) (disch := first | omega | rfl | decide | (simp only [List.length_cons, List.length_nil, List.length_append, Bs_length, Is_length, Vs_length, Bl_length, Il_length] <;> omega)) only [go_sem, Nat.reduceAdd, Int.reduceAdd, Int.reduceSub, Int.reduceMul, Bool.not_true, Bool.not_false]; try rfl)

theorem mulU_ac (h : List Blk) : AC Try.prog 202 [.int .u64 1, .int .u64 65536] h (.tuple #[.int .u64 0, .int .u64 65536]) h := by
  (refine AC_begin (fun _ _ => Try.call202 _ _) Try.func202 rfl Try.ntmps202 Try.results202 (fun hwf => ?_); simp only [List.length_cons, List.length_nil, Nat.reduceAdd, Nat.reduceSub, List.replicate, List.cons_append, List.nil_append])
  (repeat (first | ((first | (refine And.intro ?_ ?_; focus (first | exact plain_agg (by simp only [go_sem]) | exact plain_two (by first | exact plain_agg (by simp only [go_sem]) | rfl) rfl | rfl)) | ((first | with_reducible apply callB_i | with_reducible apply callK_intro | with_reducible apply callQ_i); (focus (first | assumption | (with_reducible apply mul64_ac <;> (first | assumption | rfl | (simp (disch := omega) only [go_sem]; first | done | rfl) | omega | decide | (simp; done))))); (try (focus (refine WP.mk ?_ ?_; (focus ((repeat (first | exact trivial | (refine And.intro ?_ ?_; (focus first | exact plainV_wf rfl | (refine plainV_wf (plain_agg ?_); simp only [go_sem]; done) | (simp only [wfV, wf1, wfC, List.length_append, List.length_cons, List.length_nil]; omega))))))); (focus (first | rfl | (refine plain_agg ?_; simp only [go_sem]; done) | (refine plain_two ?_ ?_ <;> first | rfl | (refine plain_agg ?_; simp only [go_sem]; done)))))))) | refine WA_seq (WA_region ?_) | refine WA_region ?_ | refine WA_exit ?_); try simp (maxSteps := 1000000) (disch := first | omega | rfl | decide | (simp only [List.length_cons, List.length_nil, List.length_append, Bs_length, Is_length, Vs_length, Bl_length, Il_length] <;> omega)) only [go_sem, Nat.reduceAdd, Int.reduceAdd, Int.reduceSub, Int.reduceMul, Bool.not_true, Bool.not_false]) | refine WA_seq ?_ | refine WA_block ?_ | (refine WA_skip ?_; try simp only [go_sem]) | (refine WA_ret ?_; try simp only [go_sem]) | refine WA_ct rfl ?_ | refine WA_cf rfl ?_))
  ((first | refine ret_none (by first | exact .inr rfl | exact .inl rfl) ?_ | refine ret_same (by first | exact .inr rfl | exact .inl rfl) ?_ (by first | rfl | exact plain_agg (by simp only [go_sem]) | exact plain_two (by first | exact plain_agg (by simp only [go_sem]) | rfl) (by first | exact plain_agg (by simp only [go_sem]) | rfl)) | refine ret_full (by first | exact .inr rfl | exact .inl rfl) (by simp) ?_); simp (maxSteps := 1000000) (disch := first | omega | rfl | decide | (simp only [List.length_cons, List.length_nil, List.length_append, Bs_length, Is_length, Vs_length, Bl_length, Il_length] <;> omega)) only [go_sem, Nat.reduceAdd, Int.reduceAdd, Int.reduceSub, Int.reduceMul, Bool.not_true, Bool.not_false]; try rfl)

attribute [local irreducible] Is
theorem rep_ac {h : List Blk} {b : Nat} {c : Int} {r : Bool} (hb : h[b]? = some ⟨Is 1 fun _ => c, r⟩) : AC Try.prog 127 [sl b 0 1 1, .int .i64 65536] h (sl h.length 0 65536 1) (h ++ [⟨Is 65536 fun _ => c, true⟩]) := by
  have hbl := blt hb
  have hb2 := look_old hb [⟨Is 65536 fun _ => 0, true⟩]
  have hc : ∀ (h : List Blk) (b o n b' o' n' : Nat), copyA Try.prog h 133 (sl b o n 1) (sl b' o' n' 1) = copyR h b o n 1 o' n' (h[b]?) (h[b']?) := fun h b o n b' o' n' => copy_of (e := 3) (by' := 8) (by kernel_rfl) h b o n b' o' n'
  have h1 := rp_one (c := c) (N := 65536) (by omega)
  have tn : Int.toNat 65536 = 65536 := rfl
  have d1 : decide ((65536 : Int) < 0) = false := by decide
  have d2 : decide ((0 : Int) < 0) = false := by decide
  have d3 : decide ((9223372036854775807 : Int) < 65536) = false := by decide
  (refine AC_begin (fun _ _ => Try.call127 _ _) Try.func127 rfl Try.ntmps127 Try.results127 (fun hwf => ?_); simp only [List.length_cons, List.length_nil, Nat.reduceAdd, Nat.reduceSub, List.replicate, List.cons_append, List.nil_append])
  (repeat (first | ((first | (refine And.intro ?_ ?_; focus (first | exact plain_agg (by simp only [go_sem]) | exact plain_two (by first | exact plain_agg (by simp only [go_sem]) | rfl) rfl | rfl)) | ((first | with_reducible apply callB_i | with_reducible apply callK_intro | with_reducible apply callQ_i); (focus (first | assumption | (with_reducible apply mulU_ac <;> (first | assumption | rfl | (simp (disch := omega) only [go_sem]; first | done | rfl) | omega | decide | (simp; done))))); (try (focus (refine WP.mk ?_ ?_; (focus ((repeat (first | exact trivial | (refine And.intro ?_ ?_; (focus first | exact plainV_wf rfl | (refine plainV_wf (plain_agg ?_); simp only [go_sem]; done) | (simp only [wfV, wf1, wfC, List.length_append, List.length_cons, List.length_nil]; omega))))))); (focus (first | rfl | (refine plain_agg ?_; simp only [go_sem]; done) | (refine plain_two ?_ ?_ <;> first | rfl | (refine plain_agg ?_; simp only [go_sem]; done)))))))) | refine WA_seq (WA_region ?_) | refine WA_region ?_ | refine WA_exit ?_); try simp (maxSteps := 1000000) (disch := first | omega | rfl | decide | (simp only [List.length_cons, List.length_nil, List.length_append, Bs_length, Is_length, Vs_length, Bl_length, Il_length] <;> omega)) only [go_sem, Nat.reduceAdd, Int.reduceAdd, Int.reduceSub, Int.reduceMul, Bool.not_true, Bool.not_false, d1, d2, d3, tn, hc, hb2, Nat.min_eq_left (show 1 ≤ 65536 by omega), h1, yieldA_at 2 23]) | refine WA_seq ?_ | refine WA_block ?_ | (refine WA_skip ?_; try simp only [go_sem]) | (refine WA_ret ?_; try simp only [go_sem]) | refine WA_ct rfl ?_ | refine WA_cf rfl ?_))
  refine WA_forP (fun k => [(8, .int .i64 ((2 ^ k : Nat) : Int)), (34, J), (35, J), (36, J), (37, J), (38, J), (39, J), (40, J), (41, J), (42, J), (43, J), (44, J), (45, J), (46, J)]) (fun k => [(0, ⟨Is 65536 (rpF c (2 ^ k)), true⟩)]) (16) ?_ ?_ ?_ <;> (try simp only [patT_cons, patT_nil, patL_cons, patL_nil, list_set_zero, list_set_succ, blk_set_zero, blk_set_succ])
  · rw [show (2 : Nat) ^ 0 = 1 from rfl]
    (refine Drop_slots (by first | exact Nat.le_refl _ | simp) ?_; focus ((try simp only [JL_same, JL_J, JL_nil, Int.reduceAdd, Nat.sub_sub, Int.natCast_add, Int.natCast_one, Int.natCast_zero, Int.cast_ofNat_Int, Nat.add_zero, Bool.false_eq_true, if_false, if_true]); (try exact JL_refl _)))
  · intro k hk
    have hp : 2 ^ k + 2 ^ k ≤ 65536 := by
      have := Nat.pow_le_pow_right (n := 2) (by omega) (show k + 1 ≤ 16 by omega)
      rw [Nat.pow_succ] at this; omega
    have hs := rp_step (c := c) hp
    have he : 2 ^ (k + 1) = 2 ^ k + 2 ^ k := by rw [Nat.pow_succ]; omega
    rw [he]
    generalize 2 ^ k = p at *
    have hm : min p (65536 - p) = p := Nat.min_eq_left (by omega)
    have hd : decide (p < 65536) = true := decide_eq_true (by omega)
    (repeat (first | ((first | (refine And.intro ?_ ?_; focus (first | exact plain_agg (by simp only [go_sem]) | exact plain_two (by first | exact plain_agg (by simp only [go_sem]) | rfl) rfl | rfl)) | refine WA_seq (WA_region ?_) | refine WA_region ?_ | refine WA_exit ?_); try simp (maxSteps := 1000000) (disch := first | omega | rfl | decide | (simp only [List.length_cons, List.length_nil, List.length_append, Bs_length, Is_length, Vs_length, Bl_length, Il_length] <;> omega)) only [go_sem, Nat.reduceAdd, Int.reduceAdd, Int.reduceSub, Int.reduceMul, Bool.not_true, Bool.not_false, hc, hm, hs, hd, decide_true, yieldA_at 2 23]) | (refine (WA_rb (id := 9) [7] (SubM.refl _) mixedOk ?_); simp only [List.size_toArray, List.length_cons, List.length_nil]; (repeat (first | ((first | (refine And.intro ?_ ?_; focus (first | exact plain_agg (by simp only [go_sem]) | exact plain_two (by first | exact plain_agg (by simp only [go_sem]) | rfl) rfl | rfl)) | refine RB_take false [0, 1, 2, 4, 5] 5 (by rfl) (by kernel_rfl) (by decide) (by decide +kernel) ?_ | refine RB_take true [3, 6] 3 (by rfl) (by kernel_rfl) (by decide) (by decide +kernel) ?_ | refine RB_exec 7 _ (by rfl) (by decide +kernel) (by decide +kernel) ?_ | refine RB_take false [8, 9] 0 (by rfl) (by kernel_rfl) (by decide) (by decide +kernel) ?_ | refine RB_done (by decide +kernel) ?_); try simp (maxSteps := 1000000) (disch := first | omega | rfl | decide | (simp only [List.length_cons, List.length_nil, List.length_append, Bs_length, Is_length, Vs_length, Bl_length, Il_length] <;> omega)) only [go_sem, Nat.reduceAdd, Int.reduceAdd, Int.reduceSub, Int.reduceMul, Bool.not_true, Bool.not_false, hc, hm, hs, hd, decide_true, yieldA_at 2 23])))) | refine WA_seq ?_ | refine WA_block ?_ | (refine WA_skip ?_; try simp only [go_sem]) | (refine WA_ret ?_; try simp only [go_sem]) | refine WA_ct rfl ?_ | refine WA_cf rfl ?_))
    (refine Drop_slots (by first | exact Nat.le_refl _ | simp) ?_; focus ((try simp only [JL_same, JL_J, JL_nil, Int.reduceAdd, Nat.sub_sub, Int.natCast_add, Int.natCast_one, Int.natCast_zero, Int.cast_ofNat_Int, Nat.add_zero, Bool.false_eq_true, if_false, if_true]); (try exact JL_refl _)))
  · have he : (2 : Nat) ^ 16 = 65536 := by decide
    rw [he, rp_all]
    (repeat (first | ((first | (refine And.intro ?_ ?_; focus (first | exact plain_agg (by simp only [go_sem]) | exact plain_two (by first | exact plain_agg (by simp only [go_sem]) | rfl) rfl | rfl)) | refine WA_seq (WA_region ?_) | refine WA_region ?_ | refine WA_exit ?_); try simp (maxSteps := 1000000) (disch := first | omega | rfl | decide | (simp only [List.length_cons, List.length_nil, List.length_append, Bs_length, Is_length, Vs_length, Bl_length, Il_length] <;> omega)) only [go_sem, Nat.reduceAdd, Int.reduceAdd, Int.reduceSub, Int.reduceMul, Bool.not_true, Bool.not_false, yieldA_at 2 23]) | refine WA_seq ?_ | refine WA_block ?_ | (refine WA_skip ?_; try simp only [go_sem]) | (refine WA_ret ?_; try simp only [go_sem]) | refine WA_ct rfl ?_ | refine WA_cf rfl ?_))
    ((first | refine ret_none (by first | exact .inr rfl | exact .inl rfl) ?_ | refine ret_same (by first | exact .inr rfl | exact .inl rfl) ?_ (by first | rfl | exact plain_agg (by simp only [go_sem]) | exact plain_two (by first | exact plain_agg (by simp only [go_sem]) | rfl) (by first | exact plain_agg (by simp only [go_sem]) | rfl)) | refine ret_full (by first | exact .inr rfl | exact .inl rfl) (by simp) ?_); simp (maxSteps := 1000000) (disch := first | omega | rfl | decide | (simp only [List.length_cons, List.length_nil, List.length_append, Bs_length, Is_length, Vs_length, Bl_length, Il_length] <;> omega)) only [go_sem, Nat.reduceAdd, Int.reduceAdd, Int.reduceSub, Int.reduceMul, Bool.not_true, Bool.not_false]; try rfl)

end Go.Proofs.Ytkgiocoiojdgfaa
