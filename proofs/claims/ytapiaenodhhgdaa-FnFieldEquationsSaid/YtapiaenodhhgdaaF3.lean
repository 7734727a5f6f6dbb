/- Matrices: reducing one to the unit matrix. Plain. -/
import Derived.Test.YtapiaenodhhgdaaW8
namespace Go.Proofs.Ytapiaenodhhgdaa
set_option linter.unusedSimpArgs false
set_option linter.unusedVariables false
set_option maxRecDepth 20000
set_option maxHeartbeats 1000000
open Go.Abs

theorem over_zero (f g : Nat → UInt8) (o : Nat) : over f o 0 g = f := by funext i; unfold over; rw [if_neg (by omega)]
theorem over_set (f g : Nat → UInt8) (o j : Nat) : upd (over f o j g) (o + j) (g j) = over f o (j + 1) g := by
  funext i; unfold upd over
  by_cases h : i = o + j
  · rw [if_pos h, if_pos (by omega)]; congr 1; omega
  · rw [if_neg h]
    by_cases h2 : o ≤ i ∧ i < o + j
    · rw [if_pos h2, if_pos (by omega)]
    · rw [if_neg h2, if_neg (by omega)]
theorem over_at (f g : Nat → UInt8) (o j : Nat) : over f o j g (o + j) = f (o + j) := by unfold over; rw [if_neg (by omega)]
theorem over_out {f g : Nat → UInt8} {o j x : Nat} (h : x < o ∨ o + j ≤ x) : over f o j g x = f x := by unfold over; rw [if_neg (by omega)]
theorem over_same (f : Nat → UInt8) (o j : Nat) : over f o j (fun t => f (o + t)) = f := by
  funext i; unfold over; split
  · show f (o + (i - o)) = f i
    congr 1; omega
  · rfl

/-- How often p holds on from s. -/
def skip (p : Nat → Bool) : Nat → Nat → Nat
  | 0, _ => 0
  | f + 1, s => if p s then skip p f (s + 1) + 1 else 0
theorem skip_go {p : Nat → Bool} : ∀ f s r, r < skip p f s → p (s + r) = true
  | 0, _, _, h => by simp [skip] at h
  | f + 1, s, r, h => by
    rw [skip] at h
    split at h
    · rename_i hp
      cases r with
      | zero => exact hp
      | succ r => have := skip_go (p := p) f (s + 1) r (by omega); rwa [show s + (r + 1) = s + 1 + r by omega]
    · omega
theorem skip_le (p : Nat → Bool) : ∀ f s, skip p f s ≤ f
  | 0, _ => Nat.le_refl _
  | f + 1, s => by rw [skip]; split; have := skip_le p f (s + 1); omega; omega
theorem skip_end {p : Nat → Bool} : ∀ f s, skip p f s < f → p (s + skip p f s) = false
  | 0, _, h => by omega
  | f + 1, s, h => by
    rw [skip] at h ⊢
    split
    · rename_i hp
      rw [if_pos hp] at h
      have := skip_end (p := p) f (s + 1) (by omega)
      rwa [show s + (skip p f (s + 1) + 1) = s + 1 + skip p f (s + 1) by omega]
    · rename_i hp; simpa using hp

def pivP (a : Nat → UInt8) (k i : Nat) : Bool := decide (i < 4) && a (i * 4 + k) == 0
def pivC (a : Nat → UInt8) (k : Nat) : Nat := skip (pivP a k) 8 k
def piv (a : Nat → UInt8) (k : Nat) : Nat := k + pivC a k
theorem piv_go {a : Nat → UInt8} {k r : Nat} (h : r < pivC a k) : k + r < 4 ∧ (a ((k + r) * 4 + k) == 0) = true := by
  have := skip_go _ _ _ h
  unfold pivP at this
  rwa [Bool.and_eq_true, decide_eq_true_eq] at this
theorem piv_le (a : Nat → UInt8) {k : Nat} (hk : k < 4) : k ≤ piv a k ∧ piv a k ≤ 4 := by
  unfold piv
  refine ⟨Nat.le_add_right _ _, ?_⟩
  cases h : pivC a k with
  | zero => omega
  | succ r => have := piv_go (a := a) (k := k) (r := r) (by omega); omega
theorem piv_end {a : Nat → UInt8} {k : Nat} (hk : k < 4) (h : piv a k < 4) : (a (piv a k * 4 + k) == 0) = false := by
  have h2 : skip (pivP a k) 8 k < 8 := by have : piv a k = k + skip (pivP a k) 8 k := rfl; omega
  have := skip_end _ _ h2
  unfold pivP at this
  rw [show k + skip (fun i => decide (i < 4) && a (i * 4 + k) == 0) 8 k = piv a k from rfl] at this
  rw [decide_eq_true h, Bool.true_and] at this
  exact this

def swp (a : Nat → UInt8) (i k : Nat) : Nat → UInt8 := over (over a (i * 4) 4 (fun t => a (k * 4 + t))) (k * 4) 4 (fun t => a (i * 4 + t))
def scl (m : Nat) (x : Nat → UInt8) (k : Nat) (v : UInt8) (j : Nat) : Nat → UInt8 := over x (k * 4) j fun t => tm m (x (k * 4 + t)) v
def elm (m : Nat) (f : UInt8) (k r : Nat) (x : Nat → UInt8) (j : Nat) : Nat → UInt8 := over x (r * 4) j fun t => x (r * 4 + t) ^^^ tm m f (x (k * 4 + t))
theorem scl_zero (m : Nat) (x : Nat → UInt8) (k : Nat) (v : UInt8) : scl m x k v 0 = x := over_zero _ _ _
theorem scl_at (m : Nat) (x : Nat → UInt8) (k : Nat) (v : UInt8) (j : Nat) : scl m x k v j (k * 4 + j) = x (k * 4 + j) := over_at _ _ _ _
theorem scl_set (m : Nat) (x : Nat → UInt8) (k : Nat) (v : UInt8) (j : Nat) : upd (scl m x k v j) (k * 4 + j) (tm m (x (k * 4 + j)) v) = scl m x k v (j + 1) := over_set x (fun t => tm m (x (k * 4 + t)) v) _ _
theorem elm_zero (m : Nat) (f : UInt8) (k r : Nat) (x : Nat → UInt8) : elm m f k r x 0 = x := over_zero _ _ _
theorem elm_at (m : Nat) (f : UInt8) (k r : Nat) (x : Nat → UInt8) (j : Nat) : elm m f k r x j (r * 4 + j) = x (r * 4 + j) := over_at _ _ _ _
theorem elm_key {m : Nat} {f : UInt8} {k r : Nat} {x : Nat → UInt8} {j t : Nat} (h : r ≠ k) (ht : t < 4) (hj : j ≤ 4) : elm m f k r x j (k * 4 + t) = x (k * 4 + t) := over_out (by omega)
theorem elm_set (m : Nat) (f : UInt8) (k r : Nat) (x : Nat → UInt8) (j : Nat) : upd (elm m f k r x j) (r * 4 + j) (x (r * 4 + j) ^^^ tm m f (x (k * 4 + j))) = elm m f k r x (j + 1) := over_set x (fun t => x (r * 4 + t) ^^^ tm m f (x (k * 4 + t))) _ _
theorem tm_zero (m : Nat) (x : UInt8) : tm m 0 x = 0 := by
  have hd : ∀ k, dblN m 0 k = 0 := by
    intro k; induction k with
    | zero => rfl
    | succ k ih => rw [dblN, ih]; rfl
  have : ∀ k, mulP m 0 x.toNat k = 0 := by
    intro k; induction k with
    | zero => rfl
    | succ k ih => rw [mulP, ih, hd]; simp
  unfold tm mulN
  rw [show (0 : UInt8).toNat = 0 from rfl, this]; rfl
theorem elm_f0 (m k r : Nat) (x : Nat → UInt8) (j : Nat) : elm m 0 k r x j = x := by
  unfold elm
  simp only [tm_zero, UInt8.xor_zero]
  exact over_same _ _ _

def elN (m k : Nat) (a b : Nat → UInt8) : Nat → (Nat → UInt8) × (Nat → UInt8)
  | 0 => (a, b)
  | r + 1 => if r = k then elN m k a b r else (elm m ((elN m k a b r).1 (r * 4 + k)) k r (elN m k a b r).1 4, elm m ((elN m k a b r).1 (r * 4 + k)) k r (elN m k a b r).2 4)
theorem elN_same {m k : Nat} {a b : Nat → UInt8} : elN m k a b (k + 1) = elN m k a b k := by rw [elN, if_pos rfl]
theorem elN_other {m k r : Nat} {a b : Nat → UInt8} (h : r ≠ k) : elN m k a b (r + 1) = (elm m ((elN m k a b r).1 (r * 4 + k)) k r (elN m k a b r).1 4, elm m ((elN m k a b r).1 (r * 4 + k)) k r (elN m k a b r).2 4) := by rw [elN, if_neg h]
theorem elN_f0 {m k r : Nat} {a b : Nat → UInt8} (h : (elN m k a b r).1 (r * 4 + k) = 0) : elN m k a b (r + 1) = elN m k a b r := by
  rw [elN, h, elm_f0, elm_f0]; split <;> rfl

structure RS where
  a : Nat → UInt8
  b : Nat → UInt8
  d : UInt8
def stepR (m k : Nat) (s : RS) : RS :=
  ⟨(elN m k (scl m (swp s.a (piv s.a k) k) k (inv m (swp s.a (piv s.a k) k (k * 4 + k))) 4) (scl m (swp s.b (piv s.a k) k) k (inv m (swp s.a (piv s.a k) k (k * 4 + k))) 4) 4).1,
   (elN m k (scl m (swp s.a (piv s.a k) k) k (inv m (swp s.a (piv s.a k) k (k * 4 + k))) 4) (scl m (swp s.b (piv s.a k) k) k (inv m (swp s.a (piv s.a k) k (k * 4 + k))) 4) 4).2,
   tm m s.d (swp s.a (piv s.a k) k (k * 4 + k))⟩
def unitP (k : Nat) : Nat → UInt8 := fun x => if x % 5 = 0 ∧ x < 5 * k then 1 else 0
def unitF : Nat → UInt8 := unitP 4
theorem unitP_zero : unitP 0 = fun _ => 0 := by funext i; simp [unitP]
theorem unitP_set (k : Nat) : upd (unitP k) (k * 4 + k) 1 = unitP (k + 1) := by
  funext i; unfold upd unitP
  by_cases h : i = k * 4 + k
  · rw [if_pos h, if_pos (by omega)]
  · rw [if_neg h]
    by_cases h2 : i % 5 = 0 ∧ i < 5 * k
    · rw [if_pos h2, if_pos (by omega)]
    · rw [if_neg h2, if_neg (by omega)]
def rs (m : Nat) (a : Nat → UInt8) : Nat → RS
  | 0 => ⟨a, unitF, 1⟩
  | k + 1 => stepR m k (rs m a k)
/-- A column without a pivot among the first n. -/
def sing (m : Nat) (a : Nat → UInt8) : Nat → Bool
  | 0 => false
  | k + 1 => sing m a k || piv (rs m a k).a k == 4
theorem sing_mono {m : Nat} {a : Nat → UInt8} {k : Nat} : ∀ {n}, k < n → piv (rs m a k).a k = 4 → sing m a n = true
  | 0, h, _ => by omega
  | n + 1, h, hp => by
    rw [sing, Bool.or_eq_true]
    by_cases e : k = n
    · subst e; right; simp [hp]
    · left; exact sing_mono (by omega) hp
theorem sing_next {m : Nat} {a : Nat → UInt8} {k : Nat} (h : sing m a k = false) (hp : piv (rs m a k).a k ≠ 4) : sing m a (k + 1) = false := by
  rw [sing, h, Bool.false_or]; simpa using hp
def detF (m : Nat) (a : Nat → UInt8) : UInt8 := if sing m a 4 then 0 else (rs m a 4).d
def backF (m : Nat) (a : Nat → UInt8) : Nat → UInt8 := if sing m a 4 then zeroF else (rs m a 4).b

theorem WA_mid {P : Program} {n0 : Nat} {x y : Code} {Q Q' : Exit → AS → Prop} {s : AS} (S : AS) (h : WA P n0 x (Then (fun s' => Drop n0 s' S) Q') s) (h2 : WA P n0 y Q S) : WA P n0 x (Then (WA P n0 y Q) Q') s :=
  WA_mono h fun e s' hq => by
    cases e <;> first | exact WA_pre hq h2 | exact hq
theorem WA_midP {P : Program} {n0 : Nat} {x y : Code} {Q Q' : Exit → AS → Prop} {t : List Value} {H L : List Blk} (ps : List (Nat × Value)) (L' : List Blk)
    (h : WA P n0 x (Then (fun s' => Drop n0 s' ⟨patT t ps, H ++ L'⟩) Q') ⟨t, H ++ L⟩) (h2 : WA P n0 y Q ⟨patT t ps, H ++ L'⟩) : WA P n0 x (Then (WA P n0 y Q) Q') ⟨t, H ++ L⟩ := WA_mid _ h h2
end Go.Proofs.Ytapiaenodhhgdaa
