/- Ranks by elimination, rows and columns chosen by masks. Plain. -/
import Derived.Test.YtkgiocoiojdgfaaF3
namespace Go.Proofs.Ytkgiocoiojdgfaa
set_option linter.unusedSimpArgs false
set_option linter.unusedVariables false
set_option maxRecDepth 20000
set_option maxHeartbeats 1000000
open Go.Abs

/-- How many of the first k bits are ones. -/
def cn (C : Nat) : Nat → Nat
  | 0 => 0
  | k + 1 => cn C k + (if C.testBit k then 1 else 0)
/-- Where the q-th one stands. -/
def kp (C q : Nat) : Nat := ((List.range 4).filter C.testBit).getD q 0
theorem kp_cn : ∀ C, C < 16 → ∀ j, j < 4 → C.testBit j = true → kp C (cn C j) = j := by decide +kernel
theorem kp_lt : ∀ C, C < 16 → ∀ q, q < 4 → q < cn C 4 → kp C q < 4 ∧ C.testBit (kp C q) = true ∧ cn C (kp C q) = q := by decide +kernel
theorem cn_le (C : Nat) : ∀ k, cn C k ≤ k
  | 0 => Nat.le_refl 0
  | k + 1 => by have := cn_le C k; unfold cn; split <;> omega
theorem cn_t {C k : Nat} (h : C.testBit k = true) : cn C (k + 1) = cn C k + 1 := by rw [cn, if_pos h]
theorem cn_f {C k : Nat} (h : C.testBit k = false) : cn C (k + 1) = cn C k := by rw [cn, h]; rfl
theorem cn_mono (C : Nat) {j : Nat} : ∀ k, j ≤ k → cn C j ≤ cn C k
  | 0, h => by rw [show j = 0 by omega]; exact Nat.le_refl _
  | k + 1, h => by
    rcases Nat.lt_or_ge j (k + 1) with h1 | h1
    · exact Nat.le_trans (cn_mono C k (show j ≤ k by omega)) (Nat.le_add_right _ _)
    · rw [show j = k + 1 by omega]; exact Nat.le_refl _

structure RkSt where
  E : Nat → Nat → UInt8
  s : Nat → Nat
  r : Nat
/-- How many rows from r on have 0 in a column, one after the other. -/
def gpC (L : Nat) (E : Nat → Nat → UInt8) (s : Nat → Nat) (r j : Nat) : Nat := skip (fun p => decide (p < L) && E (s p) j == 0) 8 r
theorem gp_go {L : Nat} {E : Nat → Nat → UInt8} {s : Nat → Nat} {r j i : Nat} (h : i < gpC L E s r j) : r + i < L ∧ (E (s (r + i)) j == 0) = true := by
  have := skip_go _ _ _ h
  rwa [Bool.and_eq_true, decide_eq_true_eq] at this
theorem gp_le {L : Nat} {E : Nat → Nat → UInt8} {s : Nat → Nat} {r j : Nat} (hr : r ≤ L) : r + gpC L E s r j ≤ L := by
  rcases Nat.eq_zero_or_pos (gpC L E s r j) with h | h
  · omega
  · have := (gp_go (i := gpC L E s r j - 1) (L := L) (E := E) (s := s) (r := r) (j := j) (by omega)).1
    omega
theorem gp_end {L : Nat} {E : Nat → Nat → UInt8} {s : Nat → Nat} {r j : Nat} (hr : r ≤ L) (hL : L ≤ 4) (h : r + gpC L E s r j ≠ L) : (E (s (r + gpC L E s r j)) j == 0) = false := by
  have h1 := gp_le (L := L) (E := E) (s := s) (r := r) (j := j) hr
  have hlt : gpC L E s r j < 8 := by omega
  have := skip_end (p := fun p => decide (p < L) && E (s p) j == 0) 8 r hlt
  have h2 : (decide (r + gpC L E s r j < L) && E (s (r + gpC L E s r j)) j == 0) = false := this
  rw [decide_eq_true (by omega), Bool.true_and] at h2
  exact h2
/-- Two rows exchanged. -/
def swS (s : Nat → Nat) (i k : Nat) : Nat → Nat := upd (upd s i (s k)) k (s i)
theorem swS_at (s : Nat → Nat) (i k : Nat) : swS s i k k = s i := by unfold swS upd; rw [if_pos rfl]
/-- A row less a multiple of another. -/
def rowN (m : Nat) (f : UInt8) (x y : Nat → UInt8) : Nat → UInt8 := fun c => x c ^^^ tm m f (y c)
/-- The rows behind r, t of them reduced. -/
def elE (m : Nat) (s : Nat → Nat) (r j : Nat) (v : UInt8) (E : Nat → Nat → UInt8) : Nat → Nat → Nat → UInt8
  | 0 => E
  | t + 1 => upd (elE m s r j v E t) (s (r + 1 + t)) (rowN m (tm m (elE m s r j v E t (s (r + 1 + t)) j) v) (elE m s r j v E t (s (r + 1 + t))) (elE m s r j v E t (s r)))
def gstep (m L j : Nat) (S : RkSt) : RkSt :=
  if S.r + gpC L S.E S.s S.r j = L then S
  else ⟨elE m (swS S.s (S.r + gpC L S.E S.s S.r j) S.r) S.r j (inv m (S.E (S.s (S.r + gpC L S.E S.s S.r j)) j)) S.E (L - (S.r + 1)), swS S.s (S.r + gpC L S.E S.s S.r j) S.r, S.r + 1⟩
theorem gstep_no {m L j : Nat} {S : RkSt} (h : S.r + gpC L S.E S.s S.r j = L) : gstep m L j S = S := if_pos h
theorem gstep_yes {m L j : Nat} {S : RkSt} (h : S.r + gpC L S.E S.s S.r j ≠ L) : gstep m L j S = ⟨elE m (swS S.s (S.r + gpC L S.E S.s S.r j) S.r) S.r j (inv m (S.E (S.s (S.r + gpC L S.E S.s S.r j)) j)) S.E (L - (S.r + 1)), swS S.s (S.r + gpC L S.E S.s S.r j) S.r, S.r + 1⟩ := if_neg h
/-- A permutation of the rows. -/
structure Pm (L : Nat) (s : Nat → Nat) : Prop where
  lt : ∀ p, p < L → s p < L
  inj : ∀ p q, p < L → q < L → s p = s q → p = q
theorem Pm_id (L : Nat) : Pm L fun p => p := ⟨fun _ h => h, fun _ _ _ _ h => h⟩
theorem swS_eq (s : Nat → Nat) (i k p : Nat) : swS s i k p = s (if p = k then i else if p = i then k else p) := by
  unfold swS upd
  by_cases h1 : p = k
  · rw [if_pos h1, if_pos h1]
  · rw [if_neg h1, if_neg h1]
    by_cases h2 : p = i
    · rw [if_pos h2, if_pos h2]
    · rw [if_neg h2, if_neg h2]
theorem Pm_sw {L : Nat} {s : Nat → Nat} (h : Pm L s) {i k : Nat} (hi : i < L) (hk : k < L) : Pm L (swS s i k) := by
  have hl : ∀ p, p < L → (if p = k then i else if p = i then k else p) < L := fun p hp => by
    split
    · exact hi
    · split
      · exact hk
      · exact hp
  refine ⟨fun p hp => by rw [swS_eq]; exact h.lt _ (hl p hp), fun p q hp hq e => ?_⟩
  rw [swS_eq, swS_eq] at e
  have := h.inj _ _ (hl p hp) (hl q hq) e
  by_cases p1 : p = k
  · by_cases q1 : q = k
    · omega
    · rw [if_pos p1, if_neg q1] at this
      by_cases q2 : q = i
      · rw [if_pos q2] at this; omega
      · rw [if_neg q2] at this; omega
  · by_cases q1 : q = k
    · rw [if_neg p1, if_pos q1] at this
      by_cases p2 : p = i
      · rw [if_pos p2] at this; omega
      · rw [if_neg p2] at this; omega
    · rw [if_neg p1, if_neg q1] at this
      by_cases p2 : p = i <;> by_cases q2 : q = i
      · omega
      · rw [if_pos p2, if_neg q2] at this; omega
      · rw [if_neg p2, if_pos q2] at this; omega
      · rw [if_neg p2, if_neg q2] at this; exact this
theorem gstep_inv {m L j : Nat} {S : RkSt} (h : Pm L S.s) (hr : S.r ≤ L) : Pm L (gstep m L j S).s ∧ (gstep m L j S).r ≤ L := by
  by_cases hp : S.r + gpC L S.E S.s S.r j = L
  · rw [gstep_no hp]; exact ⟨h, hr⟩
  · have h1 := gp_le (L := L) (E := S.E) (s := S.s) (r := S.r) (j := j) hr
    rw [gstep_yes hp]
    exact ⟨Pm_sw h (by omega) (by omega), by show S.r + 1 ≤ L; omega⟩
/-- The columns of a mask, one after the other. -/
def rkS (m L C : Nat) (E : Nat → Nat → UInt8) : Nat → RkSt
  | 0 => ⟨E, fun p => p, 0⟩
  | j + 1 => if C.testBit j then gstep m L j (rkS m L C E j) else rkS m L C E j
theorem rkS_t {m L C j : Nat} {E : Nat → Nat → UInt8} (h : C.testBit j = true) : rkS m L C E (j + 1) = gstep m L j (rkS m L C E j) := by rw [rkS, if_pos h]
theorem rkS_f {m L C j : Nat} {E : Nat → Nat → UInt8} (h : C.testBit j = false) : rkS m L C E (j + 1) = rkS m L C E j := by rw [rkS, h]; rfl
theorem rkS_inv (m L C : Nat) (E : Nat → Nat → UInt8) : ∀ j, Pm L (rkS m L C E j).s ∧ (rkS m L C E j).r ≤ L
  | 0 => ⟨Pm_id L, Nat.zero_le _⟩
  | j + 1 => by
    have ih := rkS_inv m L C E j
    unfold rkS
    split
    · exact gstep_inv ih.1 ih.2
    · exact ih
/-- All columns, one after the other. -/
def rkI (m L : Nat) (E : Nat → Nat → UInt8) : Nat → RkSt
  | 0 => ⟨E, fun p => p, 0⟩
  | j + 1 => gstep m L j (rkI m L E j)
theorem rkI_inv (m L : Nat) (E : Nat → Nat → UInt8) : ∀ j, Pm L (rkI m L E j).s ∧ (rkI m L E j).r ≤ L
  | 0 => ⟨Pm_id L, Nat.zero_le _⟩
  | j + 1 => gstep_inv (rkI_inv m L E j).1 (rkI_inv m L E j).2
/-- The columns named anew. -/
def mapE (k : Nat → Nat) (S : RkSt) : RkSt := ⟨fun q c => S.E q (k c), S.s, S.r⟩
theorem elE_map (m : Nat) (k : Nat → Nat) (s : Nat → Nat) (r j : Nat) (v : UInt8) (E : Nat → Nat → UInt8) : ∀ t, elE m s r j v (fun q c => E q (k c)) t = fun q c => elE m s r (k j) v E t q (k c)
  | 0 => rfl
  | t + 1 => by
    rw [elE, elE_map m k s r j v E t]
    funext q c
    rw [elE]
    unfold upd
    by_cases h : q = s (r + 1 + t)
    · rw [if_pos h, if_pos h]; rfl
    · rw [if_neg h, if_neg h]
theorem gstep_map (m L : Nat) (k : Nat → Nat) (j : Nat) (S : RkSt) : gstep m L j (mapE k S) = mapE k (gstep m L (k j) S) := by
  have hc : gpC L (mapE k S).E (mapE k S).s (mapE k S).r j = gpC L S.E S.s S.r (k j) := rfl
  by_cases h : S.r + gpC L S.E S.s S.r (k j) = L
  · rw [gstep_no h, gstep_no (by rw [hc]; exact h)]
  · rw [gstep_yes h, gstep_yes (by rw [hc]; exact h), hc]
    show RkSt.mk (elE m _ _ j _ (fun q c => S.E q (k c)) _) _ _ = _
    rw [elE_map]
    rfl
theorem rk_eq {m L C : Nat} (hC : C < 16) (E : Nat → Nat → UInt8) : ∀ j, j ≤ 4 → rkI m L (fun q c => E q (kp C c)) (cn C j) = mapE (kp C) (rkS m L C E j)
  | 0, _ => rfl
  | j + 1, h => by
    have ih := rk_eq (m := m) (L := L) hC E j (by omega)
    cases hb : C.testBit j
    · rw [cn_f hb, rkS_f hb, ih]
    · rw [cn_t hb, rkS_t hb, rkI, ih, gstep_map, kp_cn C hC j (by omega) hb]
/-- The rows of a mask among those of a matrix. -/
def aOf (R : Nat) (a : Nat → UInt8) (E : Nat → Nat → UInt8) : Nat → UInt8 := fun n => if n < 16 ∧ R.testBit (n / 4) = true then E (cn R (n / 4)) (n % 4) else a n
def E0 (R : Nat) (a : Nat → UInt8) : Nat → Nat → UInt8 := fun q c => a (kp R q * 4 + c)
theorem aOf_start {R : Nat} (hR : R < 16) (a : Nat → UInt8) : aOf R a (E0 R a) = a := by
  funext n
  unfold aOf E0
  split
  · rename_i h
    rw [kp_cn R hR (n / 4) (by omega) h.2, Nat.div_add_mod' n 4]
  · rfl
theorem aOf_at {R : Nat} (hR : R < 16) {a : Nat → UInt8} {E : Nat → Nat → UInt8} {q c : Nat} (hq : q < cn R 4) (hc : c < 4) : aOf R a E (kp R q * 4 + c) = E q c := by
  have hl := cn_le R 4
  obtain ⟨h1, h2, h3⟩ := kp_lt R hR q (by omega) hq
  unfold aOf
  rw [show (kp R q * 4 + c) / 4 = kp R q by omega, show (kp R q * 4 + c) % 4 = c by omega, if_pos ⟨by omega, h2⟩, h3]
theorem aOf_set {R : Nat} (hR : R < 16) {a : Nat → UInt8} {E : Nat → Nat → UInt8} {q c : Nat} (hq : q < cn R 4) (hc : c < 4) (x : UInt8) : upd (aOf R a E) (kp R q * 4 + c) x = aOf R a (upd E q (upd (E q) c x)) := by
  have hl := cn_le R 4
  obtain ⟨h1, h2, h3⟩ := kp_lt R hR q (by omega) hq
  funext n
  show (if n = kp R q * 4 + c then x else aOf R a E n) = aOf R a (upd E q (upd (E q) c x)) n
  have key : ∀ E', aOf R a E' n = if n < 16 ∧ R.testBit (n / 4) = true then E' (cn R (n / 4)) (n % 4) else a n := fun _ => rfl
  rw [key, key]
  by_cases hn : n = kp R q * 4 + c
  · rw [if_pos hn, show n / 4 = kp R q by omega, if_pos ⟨by omega, h2⟩, h3]
    unfold upd
    rw [if_pos rfl, if_pos (by omega)]
  · rw [if_neg hn]
    by_cases h : n < 16 ∧ R.testBit (n / 4) = true
    · rw [if_pos h, if_pos h]
      unfold upd
      by_cases h4 : cn R (n / 4) = q
      · have h5 : n / 4 = kp R q := by rw [← h4, kp_cn R hR _ (by omega) h.2]
        rw [if_pos h4, if_neg (by omega), h4]
      · rw [if_neg h4]
    · rw [if_neg h, if_neg h]
theorem upd2_pre {E : Nat → Nat → UInt8} {q k : Nat} {g x : Nat → UInt8} : upd (upd E q (pre k g x)) q (upd (upd E q (pre k g x) q) k (g k)) = upd E q (pre (k + 1) g x) := by
  rw [upd_upd, show upd E q (pre k g x) q = pre k g x from if_pos rfl, upd_pre]
end Go.Proofs.Ytkgiocoiojdgfaa
