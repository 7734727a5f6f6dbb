/- Roots, traces, quadratic equations, values of polynomials. Plain. -/
import Derived.Test.YtapiaenodhhgdaaF5
import Derived.Test.YtapiaenodhhgdaaF8
namespace Go.Proofs.Ytapiaenodhhgdaa
set_option linter.unusedSimpArgs false
set_option linter.unusedVariables false
set_option maxRecDepth 20000
set_option maxHeartbeats 1000000
open Go.Abs

/-- The sum of a, a^2, a^4 ..: k of them. -/
def trS (m : Nat) (a : UInt8) : Nat → UInt8
  | 0 => 0
  | k + 1 => trS m a k ^^^ sqP m a k
def tr (m : Nat) (a : UInt8) : UInt8 := trS m a 8
theorem x4 (a b c d : UInt8) : (a ^^^ b) ^^^ (c ^^^ d) = (a ^^^ c) ^^^ (b ^^^ d) := by
  rw [UInt8.xor_assoc, UInt8.xor_assoc, ← UInt8.xor_assoc b c d, ← UInt8.xor_assoc c b d, UInt8.xor_comm b c]
theorem u8_xor_eq {a b : UInt8} (h : a ^^^ b = 0) : a = b := by
  have h2 : (a ^^^ b) ^^^ b = 0 ^^^ b := by rw [h]
  rwa [UInt8.xor_assoc, UInt8.xor_self, UInt8.xor_zero, UInt8.zero_xor] at h2
section
variable {m : Nat} (h0 : 256 ≤ m) (h1 : m < 512)
include h0 h1
theorem sq_xor (a b : UInt8) : tm m (a ^^^ b) (a ^^^ b) = tm m a a ^^^ tm m b b := by
  rw [tm_xorL h0 h1, tm_xor, tm_xor, tm_comm h0 h1 b a, UInt8.xor_assoc, ← UInt8.xor_assoc (tm m a b), UInt8.xor_self, UInt8.zero_xor]
theorem sqP_xor (a b : UInt8) : ∀ k, sqP m (a ^^^ b) k = sqP m a k ^^^ sqP m b k
  | 0 => rfl
  | k + 1 => by
    show tm m (sqP m (a ^^^ b) k) (sqP m (a ^^^ b) k) = tm m (sqP m a k) (sqP m a k) ^^^ tm m (sqP m b k) (sqP m b k)
    rw [sqP_xor a b k, sq_xor h0 h1]
theorem trS_xor (a b : UInt8) : ∀ k, trS m (a ^^^ b) k = trS m a k ^^^ trS m b k
  | 0 => UInt8.xor_self.symm
  | k + 1 => by
    show trS m (a ^^^ b) k ^^^ sqP m (a ^^^ b) k = (trS m a k ^^^ sqP m a k) ^^^ (trS m b k ^^^ sqP m b k)
    rw [trS_xor a b k, sqP_xor h0 h1, x4]
theorem tr_xor (a b : UInt8) : tr m (a ^^^ b) = tr m a ^^^ tr m b := trS_xor h0 h1 a b 8
theorem trS_sq (a : UInt8) : ∀ k, tm m (trS m a k) (trS m a k) ^^^ a = trS m a (k + 1)
  | 0 => by show tm m 0 0 ^^^ a = 0 ^^^ a; rw [tm_zero]
  | k + 1 => by
    show tm m (trS m a k ^^^ sqP m a k) (trS m a k ^^^ sqP m a k) ^^^ a = trS m a (k + 1) ^^^ sqP m a (k + 1)
    rw [sq_xor h0 h1, ← trS_sq a k, UInt8.xor_assoc, UInt8.xor_assoc, UInt8.xor_comm a]; rfl
theorem trS_sq2 (a : UInt8) : ∀ k, trS m (tm m a a) k = tm m (trS m a k) (trS m a k)
  | 0 => by show (0 : UInt8) = tm m 0 0; rw [tm_zero]
  | k + 1 => by
    show trS m (tm m a a) k ^^^ sqP m (tm m a a) k = tm m (trS m a k ^^^ sqP m a k) (trS m a k ^^^ sqP m a k)
    rw [trS_sq2 a k, sq_xor h0 h1, sqP_mul h0 h1]
omit h0 h1 in
theorem powN_zero : ∀ k, powN m 0 (k + 1) = 0 := fun k => tm_zeroR m _
variable (hf : fieldB m = true)
include hf
theorem pow256 (a : UInt8) : powN m a 256 = a := by
  by_cases ha : a = 0
  · subst ha; exact powN_zero 255
  · show tm m (powN m a 255) a = a
    rw [pow255 h0 h1 hf ha, tm_one h0 h1]
/-- The root has the element as its square. -/
theorem root_sq (a : UInt8) : tm m (po m a 128) (po m a 128) = a := by
  rw [po_pow h0 h1, ← powN_add h0 h1]; exact pow256 h0 h1 hf a
theorem tr_sq (a : UInt8) : tm m (tr m a) (tr m a) = tr m a := by
  have h := trS_sq h0 h1 a 8
  have h2 : trS m a 9 = tr m a ^^^ sqP m a 8 := rfl
  rw [h2, sqP_pow h0 h1, show 2 ^ 8 = 256 from rfl, pow256 h0 h1 hf] at h
  have h3 := congrArg (· ^^^ a) h
  show tm m (trS m a 8) (trS m a 8) = tr m a
  simpa [UInt8.xor_assoc] using h3
theorem tr_01 (a : UInt8) : tr m a = 0 ∨ tr m a = 1 := by
  by_cases h : tr m a = 0
  · exact .inl h
  · right
    have h2 : tm m (tm m (tr m a) (tr m a)) (inv m (tr m a)) = tm m (tr m a) (inv m (tr m a)) := congrArg (fun x => tm m x (inv m (tr m a))) (tr_sq h0 h1 hf a)
    rwa [tm_assoc h0 h1, tm_inv h0 h1 hf h, tm_oneR h0 h1] at h2
theorem tr_of_sq (a : UInt8) : tr m (tm m a a) = tr m a := by
  have := trS_sq2 h0 h1 a 8
  rw [← tr_sq h0 h1 hf a]; exact this
theorem tr_quad (x : UInt8) : tr m (tm m x x ^^^ x) = 0 := by
  rw [tr_xor h0 h1, tr_of_sq h0 h1 hf, UInt8.xor_self]
theorem tm_nz {a b : UInt8} (h : tm m a b = 0) : a = 0 ∨ b = 0 := by
  by_cases ha : a = 0
  · exact .inl ha
  · right
    have h2 := congrArg (tm m (inv m a)) h
    rwa [← tm_assoc h0 h1, tm_comm h0 h1 (inv m a), tm_inv h0 h1 hf ha, tm_one h0 h1, tm_zeroR] at h2
theorem quad_inj {x y : UInt8} (h : tm m x x ^^^ x = tm m y y ^^^ y) : x = y ∨ x = y ^^^ 1 := by
  have h2 : tm m (x ^^^ y) (x ^^^ y ^^^ 1) = 0 := by
    rw [tm_xor, sq_xor h0 h1, tm_oneR h0 h1, x4, h, UInt8.xor_self]
  rcases tm_nz h0 h1 hf h2 with h3 | h3
  · exact .inl (u8_xor_eq h3)
  · right
    have := u8_xor_eq h3
    rw [← this, UInt8.xor_comm x, ← UInt8.xor_assoc, UInt8.xor_self, UInt8.zero_xor]
end
def hasT (m : Nat) : Bool := (List.range 8).any fun k => tr m (UInt8.ofNat (2 ^ k)) == 1
theorem hasT_all : ∀ i, i < 256 → fieldB (i + 256) = true → hasT (i + 256) = true := by decide +kernel
theorem tr_ex {m : Nat} (h0 : 256 ≤ m) (h1 : m < 512) (hf : fieldB m = true) : ∃ c, tr m c = 1 := by
  have := hasT_all (m - 256) (by omega) (by rw [show m - 256 + 256 = m by omega]; exact hf)
  rw [show m - 256 + 256 = m by omega] at this
  unfold hasT at this
  rw [List.any_eq_true] at this
  obtain ⟨k, _, hk⟩ := this
  exact ⟨_, by simpa using hk⟩
theorem u8_ev (x : UInt8) : (x ^^^ 1).toNat % 2 ≠ x.toNat % 2 := by
  rw [UInt8.toNat_xor, show (1 : UInt8).toNat = 1 from rfl]
  have : (x.toNat ^^^ 1) % 2 = (x.toNat % 2) ^^^ (1 % 2) := by
    have := Nat.xor_mod_two_pow (a := x.toNat) (b := 1) (n := 1)
    simpa using this
  rw [this]
  rcases Nat.mod_two_eq_zero_or_one x.toNat with h | h <;> rw [h] <;> decide
/-- A quadratic equation has a solution where the trace is 0. -/
theorem quad_sol {m : Nat} (h0 : 256 ≤ m) (h1 : m < 512) (hf : fieldB m = true) {a : UInt8} (ht : tr m a = 0) : ∃ x, tm m x x ^^^ x = a := by
  obtain ⟨c, hc⟩ := tr_ex h0 h1 hf
  let g : UInt8 → UInt8 := fun x => if x.toNat % 2 = 0 then tm m x x ^^^ x else (tm m x x ^^^ x) ^^^ c
  have gt : ∀ x, tr m (g x) = if x.toNat % 2 = 0 then 0 else 1 := fun x => by
    show tr m (if x.toNat % 2 = 0 then tm m x x ^^^ x else (tm m x x ^^^ x) ^^^ c) = _
    split
    · exact tr_quad h0 h1 hf x
    · rw [tr_xor h0 h1, tr_quad h0 h1 hf, hc]; rfl
  have gi : ∀ x y, g x = g y → x = y := fun x y e => by
    have et : (if x.toNat % 2 = 0 then (0 : UInt8) else 1) = if y.toNat % 2 = 0 then 0 else 1 := by rw [← gt, ← gt, e]
    have hp : x.toNat % 2 = y.toNat % 2 := by
      rcases Nat.mod_two_eq_zero_or_one x.toNat with h | h <;> rcases Nat.mod_two_eq_zero_or_one y.toNat with h' | h' <;> rw [h, h'] at et <;> first | (rw [h, h']; done) | exact absurd et (by decide)
    have e2 : tm m x x ^^^ x = tm m y y ^^^ y := by
      change (if x.toNat % 2 = 0 then tm m x x ^^^ x else (tm m x x ^^^ x) ^^^ c) = (if y.toNat % 2 = 0 then tm m y y ^^^ y else (tm m y y ^^^ y) ^^^ c) at e
      rw [hp] at e
      split at e
      · exact e
      · have := congrArg (· ^^^ c) e
        simpa [UInt8.xor_assoc] using this
    rcases quad_inj h0 h1 hf e2 with h | h
    · exact h
    · subst h; exact absurd hp (u8_ev y)
  obtain ⟨i, hi, e⟩ := inj_surj 256 (fun i => (g (UInt8.ofNat i)).toNat) (fun i _ => u8_lt _) (fun i j hi hj e => by
    have := gi _ _ (UInt8.toNat_inj.mp e)
    have := congrArg UInt8.toNat this
    rwa [u8_ofNat_toNat hi, u8_ofNat_toNat hj] at this) a.toNat (u8_lt a)
  have e3 : g (UInt8.ofNat i) = a := UInt8.toNat_inj.mp e
  have e4 := gt (UInt8.ofNat i)
  rw [e3, ht] at e4
  refine ⟨UInt8.ofNat i, ?_⟩
  by_cases hp : (UInt8.ofNat i).toNat % 2 = 0
  · rw [← e3]; show _ = if (UInt8.ofNat i).toNat % 2 = 0 then _ else _; rw [if_pos hp]
  · rw [if_neg hp] at e4; exact absurd e4 (by decide)
/-- The least solution, or 256. -/
def qd (m : Nat) (a : UInt8) : Nat := skip (fun k => tm m (UInt8.ofNat k) (UInt8.ofNat k) ^^^ UInt8.ofNat k != a) 256 0
theorem qd_le (m : Nat) (a : UInt8) : qd m a ≤ 256 := skip_le _ _ _
theorem qd_go {m : Nat} {a : UInt8} {k : Nat} (h : k < qd m a) : (tm m (UInt8.ofNat k) (UInt8.ofNat k) ^^^ UInt8.ofNat k == a) = false := by
  have := skip_go _ _ _ h
  rw [Nat.zero_add] at this
  simpa using this
theorem qd_end {m : Nat} {a : UInt8} (h : qd m a < 256) : tm m (UInt8.ofNat (qd m a)) (UInt8.ofNat (qd m a)) ^^^ UInt8.ofNat (qd m a) = a := by
  have := skip_end (p := fun k => tm m (UInt8.ofNat k) (UInt8.ofNat k) ^^^ UInt8.ofNat k != a) 256 0 h
  rw [Nat.zero_add] at this
  simpa [qd] using this
theorem qd_tr {m : Nat} (h0 : 256 ≤ m) (h1 : m < 512) (hf : fieldB m = true) (a : UInt8) : decide (qd m a < 256) = (tr m a == 0) := by
  by_cases h : qd m a < 256
  · have e := qd_end h
    have := tr_quad h0 h1 hf (UInt8.ofNat (qd m a))
    rw [e] at this
    rw [this, decide_eq_true h]; rfl
  · rw [decide_eq_false h]
    symm
    rw [beq_eq_false_iff_ne]
    intro ht
    obtain ⟨x, hx⟩ := quad_sol h0 h1 hf ht
    have := qd_go (m := m) (a := a) (k := x.toNat) (by have := u8_lt x; omega)
    rw [UInt8.ofNat_toNat, hx] at this
    simp at this

/-- The value of a row of n coefficients at x. -/
def vs (m : Nat) (c : Nat → UInt8) (x : UInt8) : Nat → UInt8
  | 0 => 0
  | n + 1 => vs m c x n ^^^ tm m (c n) (powN m x n)
/-- The value of the k uppermost of n coefficients, reckoned from above. -/
def hor (m : Nat) (c : Nat → UInt8) (x : UInt8) (n : Nat) : Nat → UInt8
  | 0 => 0
  | k + 1 => tm m (hor m c x n k) x ^^^ c (n - 1 - k)
section
variable {m : Nat} (h0 : 256 ≤ m) (h1 : m < 512)
include h0 h1
theorem hor_vs (c : Nat → UInt8) (x : UInt8) (n : Nat) : ∀ k, k ≤ n → vs m c x n = vs m c x (n - k) ^^^ tm m (hor m c x n k) (powN m x (n - k))
  | 0, _ => by show _ = vs m c x n ^^^ tm m 0 _; rw [tm_zero, UInt8.xor_zero]
  | k + 1, h => by
    rw [hor_vs c x n k (by omega), show n - k = (n - (k + 1)) + 1 by omega]
    show vs m c x (n - (k + 1)) ^^^ tm m (c (n - (k + 1))) (powN m x (n - (k + 1))) ^^^ tm m (hor m c x n k) (tm m (powN m x (n - (k + 1))) x) = _ ^^^ tm m (tm m (hor m c x n k) x ^^^ c (n - 1 - k)) _
    rw [tm_xorL h0 h1, show n - 1 - k = n - (k + 1) by omega, UInt8.xor_assoc, UInt8.xor_comm (tm m (c _) _), tm_assoc h0 h1 (hor m c x n k) x, tm_comm h0 h1 x]
theorem hor_all (c : Nat → UInt8) (x : UInt8) (n : Nat) : hor m c x n n = vs m c x n := by
  have := hor_vs h0 h1 c x n n (Nat.le_refl n)
  rw [Nat.sub_self] at this
  rw [this]
  show _ = 0 ^^^ tm m _ 1
  rw [tm_oneR h0 h1, UInt8.zero_xor]
theorem vs_add (c d : Nat → UInt8) (x : UInt8) : ∀ n, vs m (fun j => c j ^^^ d j) x n = vs m c x n ^^^ vs m d x n
  | 0 => UInt8.xor_self.symm
  | n + 1 => by
    show vs m (fun j => c j ^^^ d j) x n ^^^ tm m (c n ^^^ d n) (powN m x n) = (vs m c x n ^^^ tm m (c n) (powN m x n)) ^^^ (vs m d x n ^^^ tm m (d n) (powN m x n))
    rw [vs_add c d x n, tm_xorL h0 h1, x4]
theorem vs_scale (c : Nat → UInt8) (w x : UInt8) : ∀ n, vs m (fun j => tm m (c j) w) x n = tm m (vs m c x n) w
  | 0 => by show (0 : UInt8) = tm m 0 w; rw [tm_zero]
  | n + 1 => by
    show vs m (fun j => tm m (c j) w) x n ^^^ tm m (tm m (c n) w) (powN m x n) = tm m (vs m c x n ^^^ tm m (c n) (powN m x n)) w
    rw [vs_scale c w x n, tm_xorL h0 h1, tm_assoc h0 h1 (c n) w, tm_comm h0 h1 w, tm_assoc h0 h1 (c n)]
omit h0 h1 in
theorem vs_zero (x : UInt8) : ∀ n, vs m (fun _ => 0) x n = 0
  | 0 => rfl
  | n + 1 => by show vs m (fun _ => 0) x n ^^^ tm m 0 _ = 0; rw [vs_zero x n, tm_zero]; rfl
omit h0 h1 in
theorem vs_cong {c d : Nat → UInt8} (x : UInt8) : ∀ {n : Nat}, (∀ j, j < n → c j = d j) → vs m c x n = vs m d x n
  | 0, _ => rfl
  | n + 1, h => by
    show vs m c x n ^^^ tm m (c n) _ = vs m d x n ^^^ tm m (d n) _
    rw [vs_cong x (fun j hj => h j (by omega)), h n (by omega)]
/-- The row shifted by one has the value times x. -/
theorem vs_shift (c : Nat → UInt8) (x : UInt8) : ∀ n, vs m (fun j => if j = 0 then 0 else c (j - 1)) x (n + 1) = tm m x (vs m c x n)
  | 0 => by show 0 ^^^ tm m (if 0 = 0 then 0 else c (0 - 1)) 1 = tm m x 0; rw [if_pos rfl, tm_zero, tm_zeroR]; rfl
  | n + 1 => by
    show vs m (fun j => if j = 0 then 0 else c (j - 1)) x (n + 1) ^^^ tm m (if n + 1 = 0 then 0 else c (n + 1 - 1)) (powN m x (n + 1)) = tm m x (vs m c x n ^^^ tm m (c n) (powN m x n))
    rw [vs_shift c x n, if_neg (by omega), tm_xor, Nat.add_sub_cancel]
    show _ ^^^ tm m (c n) (tm m (powN m x n) x) = _
    rw [tm_comm h0 h1 (powN m x n) x, ← tm_assoc h0 h1 (c n) x, tm_comm h0 h1 (c n) x, tm_assoc h0 h1 x]
theorem vs_stp (c0 c1 : Nat → UInt8) (x : UInt8) (n : Nat) (hn : 0 < n) : vs m (stp c0 c1 n) x (n + 1) = vs m c0 x n ^^^ tm m x (vs m c1 x n) := by
  rw [← vs_shift h0 h1 c1 x n]
  have e : vs m c0 x n = vs m (fun j => if j < n then c0 j else 0) x (n + 1) := by
    show _ = vs m _ x n ^^^ tm m (if n < n then c0 n else 0) _
    rw [if_neg (by omega), tm_zero, UInt8.xor_zero]
    exact vs_cong x (fun j hj => (if_pos hj).symm)
  rw [e, ← vs_add h0 h1]
  refine vs_cong x (fun j hj => ?_)
  unfold stp
  by_cases hj2 : j < n
  · rw [if_pos hj2]
    by_cases hj0 : j = 0
    · subst hj0; rw [if_pos rfl, if_pos hn, if_pos rfl, UInt8.xor_zero]
    · rw [if_neg hj0, if_pos hj2, if_neg hj0, UInt8.xor_comm]
  · have : j = n := by omega
    subst this
    rw [if_neg hj2, if_pos ⟨rfl, hn⟩, if_neg hj2, if_neg (by omega), UInt8.zero_xor]
/-- The value of the own polynomial: the product of the differences. -/
def prd (m : Nat) (f : Nat → UInt8) (i : Nat) (x : UInt8) : Nat → UInt8
  | 0 => 1
  | k + 1 => if k = i then prd m f i x k else tm m (prd m f i x k) (x ^^^ f k)
omit h0 h1 in
theorem lagL_pos (i k : Nat) : 0 < lagL i k ∨ k = 0 ∧ False ∨ (i < k ∧ k = 0) := by
  unfold lagL; split <;> omega
theorem own_val (f : Nat → UInt8) (i : Nat) (x : UInt8) : ∀ k, vs m (own m f i k) x (lagL i k) = prd m f i x k
  | 0 => by
    show 0 ^^^ tm m (own0 0) 1 = 1
    rw [tm_oneR h0 h1]; rfl
  | k + 1 => by
    by_cases h : k = i
    · subst h
      rw [own_same, lagL_same, own_val f k x k]
      show _ = if k = k then _ else _
      rw [if_pos rfl]
    · have hp : 0 < lagL i k := by unfold lagL; split <;> omega
      rw [own_step h, lagL_step h, vs_stp h0 h1 _ _ x _ hp]
      unfold ownC
      rw [vs_scale h0 h1, own_val f i x k, tm_comm h0 h1 x, ← tm_xor, UInt8.xor_comm]
      show _ = if k = i then _ else _
      rw [if_neg h]
omit h0 h1 in
theorem prd_zero (f : Nat → UInt8) {i j : Nat} (hij : j ≠ i) : ∀ k, j < k → prd m f i (f j) k = 0
  | 0, h => absurd h (by omega)
  | k + 1, h => by
    show (if k = i then prd m f i (f j) k else tm m (prd m f i (f j) k) (f j ^^^ f k)) = 0
    by_cases hk : k = i
    · rw [if_pos hk]; exact prd_zero f hij k (by omega)
    · rw [if_neg hk]
      by_cases hj : j = k
      · subst hj; rw [UInt8.xor_self, tm_zeroR]
      · rw [prd_zero f hij k (by omega), tm_zero]
omit h0 h1 in
theorem prd_bot (f : Nat → UInt8) (i : Nat) : ∀ k, prd m f i (f i) k = bot m f i k
  | 0 => rfl
  | k + 1 => by
    show (if k = i then prd m f i (f i) k else tm m (prd m f i (f i) k) (f i ^^^ f k)) = if k = i then bot m f i k else tm m (bot m f i k) (f i ^^^ f k)
    rw [prd_bot f i k]
theorem bot_nz (hf : fieldB m = true) (f : Nat → UInt8) (i : Nat) : ∀ k, (∀ j, j < k → j ≠ i → f j ≠ f i) → bot m f i k ≠ 0
  | 0, _ => (show (1 : UInt8) ≠ 0 by decide)
  | k + 1, h => by
    show (if k = i then bot m f i k else tm m (bot m f i k) (f i ^^^ f k)) ≠ 0
    have ih := bot_nz hf f i k (fun j hj => h j (by omega))
    by_cases hk : k = i
    · rw [if_pos hk]; exact ih
    · rw [if_neg hk]
      intro e
      rcases tm_nz h0 h1 hf e with e | e
      · exact ih e
      · exact h k (by omega) hk (u8_xor_eq e).symm
theorem outS_val (hf : fieldB m = true) (f v : Nat → UInt8) (N : Nat) (hd : ∀ i j, i < N → j < N → i ≠ j → f i ≠ f j) {j : Nat} (hj : j < N) :
    ∀ i, i ≤ N → vs m (outS m f v N i) (f j) N = if j < i then v j else 0
  | 0, _ => by rw [if_neg (by omega)]; exact vs_zero (f j) N
  | i + 1, h => by
    have e : vs m (outS m f v N (i + 1)) (f j) N = vs m (outS m f v N i) (f j) N ^^^ tm m (vs m (own m f i N) (f j) N) (tm m (v i) (inv m (bot m f i N))) := by
      rw [← vs_scale h0 h1, ← vs_add h0 h1]; rfl
    have hl : lagL i N = N := lagL_end (by omega)
    have ho := own_val h0 h1 f i (f j) N
    rw [hl] at ho
    rw [e, outS_val hf f v N hd hj i (by omega), ho]
    by_cases hji : j = i
    · subst hji
      have hb := bot_nz h0 h1 hf f j N (fun k hk hkj => hd k j hk hj hkj)
      rw [prd_bot, tm_comm h0 h1 (v j), ← tm_assoc h0 h1, tm_inv h0 h1 hf hb, tm_one h0 h1, if_neg (by omega), if_pos (by omega), UInt8.zero_xor]
    · rw [prd_zero f hji N hj, tm_zero, UInt8.xor_zero]
      by_cases hlt : j < i
      · rw [if_pos hlt, if_pos (by omega)]
      · rw [if_neg hlt, if_neg (by omega)]
/-- Polynomials come back from their values. -/
theorem outS_back (hf : fieldB m = true) (f v : Nat → UInt8) (N : Nat) (hd : ∀ i j, i < N → j < N → i ≠ j → f i ≠ f j) {j : Nat} (hj : j < N) : hor m (outS m f v N N) (f j) N N = v j := by
  rw [hor_all h0 h1, outS_val h0 h1 hf f v N hd hj N (Nat.le_refl N), if_pos hj]
end
end Go.Proofs.Ytapiaenodhhgdaa
