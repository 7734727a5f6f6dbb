/- A part of the proof of FnMatrices. -/
import Derived.Test.YtkgiocoiojdgfaaQB0
/- Determinants: of products, and 0 exactly where something but 0 becomes 0. Plain. -/
namespace Go.Proofs.Ytkgiocoiojdgfaa
set_option linter.unusedSimpArgs false
set_option linter.unusedVariables false
set_option maxRecDepth 20000
set_option maxHeartbeats 1000000
open Go.Abs

def P2 (m : Nat) (x y : Nat → UInt8) (a b : Nat) : UInt8 := tm m (x a) (y b) ^^^ tm m (x b) (y a)
def P3 (m : Nat) (x y z : Nat → UInt8) (a b c : Nat) : UInt8 := tm m (x a) (P2 m y z b c) ^^^ tm m (x b) (P2 m y z a c) ^^^ tm m (x c) (P2 m y z a b)
/-- The sum of all products of four elements in different rows and columns. -/
def P4 (m : Nat) (w x y z : Nat → UInt8) : UInt8 := tm m (w 0) (P3 m x y z 1 2 3) ^^^ tm m (w 1) (P3 m x y z 0 2 3) ^^^ tm m (w 2) (P3 m x y z 0 1 3) ^^^ tm m (w 3) (P3 m x y z 0 1 2)
theorem pair6 (a b c d e f : UInt8) : (a ^^^ b ^^^ c) ^^^ (a ^^^ d ^^^ e) ^^^ (b ^^^ d ^^^ f) ^^^ (c ^^^ e ^^^ f) = 0 := by
  have : (a ^^^ b ^^^ c) ^^^ (a ^^^ d ^^^ e) ^^^ (b ^^^ d ^^^ f) ^^^ (c ^^^ e ^^^ f) = (a ^^^ a) ^^^ (b ^^^ b) ^^^ (c ^^^ c) ^^^ (d ^^^ d) ^^^ (e ^^^ e) ^^^ (f ^^^ f) := by ac_rfl
  rw [this]; simp only [UInt8.xor_self]
section
variable {m : Nat} (h0 : 256 ≤ m) (h1 : m < 512)
include h0 h1
theorem tm_lc (a b c : UInt8) : tm m a (tm m b c) = tm m b (tm m a c) := by rw [← tm_assoc h0 h1, tm_comm h0 h1 a b, tm_assoc h0 h1]
theorem tm_rc (a b c : UInt8) : tm m (tm m a b) c = tm m (tm m a c) b := by rw [tm_assoc h0 h1, tm_comm h0 h1 b c, ← tm_assoc h0 h1]
theorem P2_sym (x y : Nat → UInt8) (a b : Nat) : P2 m x y a b = P2 m y x a b := by
  unfold P2; rw [tm_comm h0 h1 (y a), tm_comm h0 h1 (y b), UInt8.xor_comm]
theorem P3_s12 (x y z : Nat → UInt8) (a b c : Nat) : P3 m x y z a b c = P3 m x z y a b c := by
  unfold P3; rw [P2_sym h0 h1 y z, P2_sym h0 h1 y z, P2_sym h0 h1 y z]
theorem P3_s01 (x y z : Nat → UInt8) (a b c : Nat) : P3 m x y z a b c = P3 m y x z a b c := by
  unfold P3 P2
  simp only [tm_xor]
  rw [tm_lc h0 h1 (y a) (x b), tm_lc h0 h1 (y a) (x c), tm_lc h0 h1 (y b) (x a), tm_lc h0 h1 (y b) (x c), tm_lc h0 h1 (y c) (x a), tm_lc h0 h1 (y c) (x b)]
  ac_rfl
theorem P4_s23 (w x y z : Nat → UInt8) : P4 m w x y z = P4 m w x z y := by
  unfold P4; rw [P3_s12 h0 h1 x y z, P3_s12 h0 h1 x y z, P3_s12 h0 h1 x y z, P3_s12 h0 h1 x y z]
theorem P4_s12 (w x y z : Nat → UInt8) : P4 m w x y z = P4 m w y x z := by
  unfold P4; rw [P3_s01 h0 h1 x y z, P3_s01 h0 h1 x y z, P3_s01 h0 h1 x y z, P3_s01 h0 h1 x y z]
theorem P4_s01 (w x y z : Nat → UInt8) : P4 m w x y z = P4 m x w y z := by
  unfold P4 P3
  simp only [tm_xor]
  rw [tm_lc h0 h1 (x 0) (w 1), tm_lc h0 h1 (x 0) (w 2), tm_lc h0 h1 (x 0) (w 3), tm_lc h0 h1 (x 1) (w 0), tm_lc h0 h1 (x 1) (w 2), tm_lc h0 h1 (x 1) (w 3),
    tm_lc h0 h1 (x 2) (w 0), tm_lc h0 h1 (x 2) (w 1), tm_lc h0 h1 (x 2) (w 3), tm_lc h0 h1 (x 3) (w 0), tm_lc h0 h1 (x 3) (w 1), tm_lc h0 h1 (x 3) (w 2)]
  ac_rfl
theorem P4_dup (w y z : Nat → UInt8) : P4 m w w y z = 0 := by
  unfold P4 P3
  simp only [tm_xor]
  rw [tm_lc h0 h1 (w 1) (w 0), tm_lc h0 h1 (w 2) (w 0), tm_lc h0 h1 (w 2) (w 1), tm_lc h0 h1 (w 3) (w 0), tm_lc h0 h1 (w 3) (w 1), tm_lc h0 h1 (w 3) (w 2)]
  exact pair6 _ _ _ _ _ _
theorem P4_s02 (w x y z : Nat → UInt8) : P4 m w x y z = P4 m y x w z := (P4_s01 h0 h1 w x y z).trans ((P4_s12 h0 h1 x w y z).trans (P4_s01 h0 h1 x y w z))
theorem P4_s13 (w x y z : Nat → UInt8) : P4 m w x y z = P4 m w z y x := (P4_s12 h0 h1 w x y z).trans ((P4_s23 h0 h1 w y x z).trans (P4_s12 h0 h1 w y z x))
theorem P4_s03 (w x y z : Nat → UInt8) : P4 m w x y z = P4 m z x y w := (P4_s23 h0 h1 w x y z).trans ((P4_s02 h0 h1 w x z y).trans (P4_s23 h0 h1 z x w y))
theorem P4_lin (w v x y z : Nat → UInt8) (f : UInt8) : P4 m (fun t => w t ^^^ tm m f (v t)) x y z = P4 m w x y z ^^^ tm m f (P4 m v x y z) := by
  unfold P4
  simp only [tm_xorL h0 h1, tm_assoc h0 h1, tm_xor]
  ac_rfl
theorem P4_scl (w x y z : Nat → UInt8) (v : UInt8) : P4 m (fun t => tm m (w t) v) x y z = tm m (P4 m w x y z) v := by
  unfold P4
  simp only [tm_xorL h0 h1]
  rw [tm_rc h0 h1 (w 0) v, tm_rc h0 h1 (w 1) v, tm_rc h0 h1 (w 2) v, tm_rc h0 h1 (w 3) v]
theorem add0x (w x y z : Nat → UInt8) (f : UInt8) : P4 m (fun t => w t ^^^ tm m f (x t)) x y z = P4 m w x y z := by
  rw [P4_lin h0 h1, P4_dup h0 h1, tm_zeroR, UInt8.xor_zero]
theorem add0y (w x y z : Nat → UInt8) (f : UInt8) : P4 m (fun t => w t ^^^ tm m f (y t)) x y z = P4 m w x y z := by
  rw [P4_lin h0 h1, P4_s12 h0 h1 y x y z, P4_dup h0 h1, tm_zeroR, UInt8.xor_zero]
theorem add0z (w x y z : Nat → UInt8) (f : UInt8) : P4 m (fun t => w t ^^^ tm m f (z t)) x y z = P4 m w x y z := by
  rw [P4_lin h0 h1, P4_s13 h0 h1 z x y z, P4_dup h0 h1, tm_zeroR, UInt8.xor_zero]
end
/-- The same of rows. -/
def LD (m : Nat) (r : Nat → Nat → UInt8) : UInt8 := P4 m (r 0) (r 1) (r 2) (r 3)
theorem c4 {i : Nat} (h : i < 4) : i = 0 ∨ i = 1 ∨ i = 2 ∨ i = 3 := by omega
section
variable {m : Nat} (h0 : 256 ≤ m) (h1 : m < 512)
include h0 h1
theorem LD_swap (r : Nat → Nat → UInt8) {p k : Nat} (hp : p < 4) (hk : k < 4) : LD m (fun i => if i = k then r p else if i = p then r k else r i) = LD m r := by
  rcases c4 hp with rfl | rfl | rfl | rfl <;> rcases c4 hk with rfl | rfl | rfl | rfl <;>
    first
    | rfl
    | exact P4_s01 h0 h1 _ _ _ _
    | exact P4_s12 h0 h1 _ _ _ _
    | exact P4_s23 h0 h1 _ _ _ _
    | exact P4_s02 h0 h1 _ _ _ _
    | exact P4_s13 h0 h1 _ _ _ _
    | exact P4_s03 h0 h1 _ _ _ _
theorem LD_scale (r : Nat → Nat → UInt8) (v : UInt8) {k : Nat} (hk : k < 4) : LD m (fun i => if i = k then fun t => tm m (r k t) v else r i) = tm m (LD m r) v := by
  rcases c4 hk with rfl | rfl | rfl | rfl
  · exact P4_scl h0 h1 _ _ _ _ v
  · show P4 m (r 0) (fun t => tm m (r 1 t) v) (r 2) (r 3) = tm m (P4 m (r 0) (r 1) (r 2) (r 3)) v
    rw [P4_s01 h0 h1, P4_scl h0 h1, P4_s01 h0 h1 (r 1)]
  · show P4 m (r 0) (r 1) (fun t => tm m (r 2 t) v) (r 3) = tm m (P4 m (r 0) (r 1) (r 2) (r 3)) v
    rw [P4_s02 h0 h1, P4_scl h0 h1, P4_s02 h0 h1 (r 2)]
  · show P4 m (r 0) (r 1) (r 2) (fun t => tm m (r 3 t) v) = tm m (P4 m (r 0) (r 1) (r 2) (r 3)) v
    rw [P4_s03 h0 h1, P4_scl h0 h1, P4_s03 h0 h1 (r 3)]
theorem LD_add (r : Nat → Nat → UInt8) (f : UInt8) {k q : Nat} (hk : k < 4) (hq : q < 4) (hn : q ≠ k) : LD m (fun i => if i = q then fun t => r q t ^^^ tm m f (r k t) else r i) = LD m r := by
  rcases c4 hq with rfl | rfl | rfl | rfl
  · show P4 m (fun t => r 0 t ^^^ tm m f (r k t)) (r 1) (r 2) (r 3) = P4 m (r 0) (r 1) (r 2) (r 3)
    rcases c4 hk with rfl | rfl | rfl | rfl
    · exact absurd rfl hn
    · exact add0x h0 h1 _ _ _ _ f
    · exact add0y h0 h1 _ _ _ _ f
    · exact add0z h0 h1 _ _ _ _ f
  · show P4 m (r 0) (fun t => r 1 t ^^^ tm m f (r k t)) (r 2) (r 3) = P4 m (r 0) (r 1) (r 2) (r 3)
    rw [P4_s01 h0 h1, P4_s01 h0 h1 (r 0)]
    rcases c4 hk with rfl | rfl | rfl | rfl
    · exact add0x h0 h1 _ _ _ _ f
    · exact absurd rfl hn
    · exact add0y h0 h1 _ _ _ _ f
    · exact add0z h0 h1 _ _ _ _ f
  · show P4 m (r 0) (r 1) (fun t => r 2 t ^^^ tm m f (r k t)) (r 3) = P4 m (r 0) (r 1) (r 2) (r 3)
    rw [P4_s02 h0 h1, P4_s02 h0 h1 (r 0)]
    rcases c4 hk with rfl | rfl | rfl | rfl
    · exact add0y h0 h1 _ _ _ _ f
    · exact add0x h0 h1 _ _ _ _ f
    · exact absurd rfl hn
    · exact add0z h0 h1 _ _ _ _ f
  · show P4 m (r 0) (r 1) (r 2) (fun t => r 3 t ^^^ tm m f (r k t)) = P4 m (r 0) (r 1) (r 2) (r 3)
    rw [P4_s03 h0 h1, P4_s03 h0 h1 (r 0)]
    rcases c4 hk with rfl | rfl | rfl | rfl
    · exact add0z h0 h1 _ _ _ _ f
    · exact add0x h0 h1 _ _ _ _ f
    · exact add0y h0 h1 _ _ _ _ f
    · exact absurd rfl hn
end
/-- The rows of a product of b and x. -/
def Bx (m : Nat) (b x : Nat → UInt8) : Nat → Nat → UInt8 := fun i j => D m b (fun t => x (t * 4 + j)) i
theorem LD_cong {m : Nat} {r s : Nat → Nat → UInt8} (h : ∀ i, i < 4 → ∀ j, j < 4 → r i j = s i j) : LD m r = LD m s := by
  unfold LD P4 P3 P2
  rw [h 0 (by omega) 0 (by omega), h 0 (by omega) 1 (by omega), h 0 (by omega) 2 (by omega), h 0 (by omega) 3 (by omega),
    h 1 (by omega) 0 (by omega), h 1 (by omega) 1 (by omega), h 1 (by omega) 2 (by omega), h 1 (by omega) 3 (by omega),
    h 2 (by omega) 0 (by omega), h 2 (by omega) 1 (by omega), h 2 (by omega) 2 (by omega), h 2 (by omega) 3 (by omega),
    h 3 (by omega) 0 (by omega), h 3 (by omega) 1 (by omega), h 3 (by omega) 2 (by omega), h 3 (by omega) 3 (by omega)]
/-- The rows of a matrix. -/
def rowF (a : Nat → UInt8) : Nat → Nat → UInt8 := fun i j => a (i * 4 + j)
section
variable {m : Nat} (h0 : 256 ≤ m) (h1 : m < 512)
include h0 h1
theorem LD_swp (b x : Nat → UInt8) {p k : Nat} (hp : p < 4) (hk : k < 4) : LD m (Bx m (swp b p k) x) = LD m (Bx m b x) := by
  rw [← LD_swap h0 h1 (Bx m b x) hp hk]
  refine LD_cong fun i _ j _ => ?_
  show D m (swp b p k) _ i = (if i = k then Bx m b x p else if i = p then Bx m b x k else Bx m b x i) j
  rw [D_swp]
  split
  · rfl
  · split <;> rfl
theorem LD_scl (b x : Nat → UInt8) (v : UInt8) {k : Nat} (hk : k < 4) : LD m (Bx m (scl m b k v 4) x) = tm m (LD m (Bx m b x)) v := by
  rw [← LD_scale h0 h1 (Bx m b x) v hk]
  refine LD_cong fun i _ j _ => ?_
  show D m (scl m b k v 4) _ i = (if i = k then fun t => tm m (Bx m b x k t) v else Bx m b x i) j
  rw [D_scl h0 h1]
  split <;> rfl
theorem LD_elm (b x : Nat → UInt8) (f : UInt8) {k q : Nat} (hk : k < 4) (hq : q < 4) (hn : q ≠ k) : LD m (Bx m (elm m f k q b 4) x) = LD m (Bx m b x) := by
  rw [← LD_add h0 h1 (Bx m b x) f hk hq hn]
  refine LD_cong fun i _ j _ => ?_
  show D m (elm m f k q b 4) _ i = (if i = q then fun t => Bx m b x q t ^^^ tm m f (Bx m b x k t) else Bx m b x i) j
  rw [D_elm h0 h1]
  split <;> rfl
theorem LD_elN (a b x : Nat → UInt8) {k : Nat} (hk : k < 4) : ∀ r, r ≤ 4 → LD m (Bx m (elN m k a b r).2 x) = LD m (Bx m b x)
  | 0, _ => rfl
  | r + 1, hr => by
    by_cases h : r = k
    · subst h; rw [elN_same]; exact LD_elN a b x hk r (by omega)
    · rw [elN_other h]
      show LD m (Bx m (elm m _ k r _ 4) x) = _
      rw [LD_elm h0 h1 _ _ _ hk (by omega) h]
      exact LD_elN a b x hk r (by omega)
theorem LD_step (hf : fieldB m = true) {k : Nat} {s : RS} (x : Nat → UInt8) (hk : k < 4) (hp : piv s.a k < 4) : tm m (stepR m k s).d (LD m (Bx m (stepR m k s).b x)) = tm m s.d (LD m (Bx m s.b x)) := by
  have hw : s.a (piv s.a k * 4 + k) ≠ 0 := by simpa using piv_end hk hp
  have w : swp s.a (piv s.a k) k (k * 4 + k) = s.a (piv s.a k * 4 + k) := by rw [swp_at s.a hk, if_pos rfl]
  show tm m (tm m s.d (swp s.a (piv s.a k) k (k * 4 + k))) (LD m (Bx m (elN m k _ _ 4).2 x)) = _
  rw [LD_elN h0 h1 _ _ _ hk 4 (Nat.le_refl _), LD_scl h0 h1 _ _ _ hk, LD_swp h0 h1 _ _ hp hk, w, tm_assoc h0 h1, tm_lc h0 h1 (s.a _) (LD m _), tm_inv h0 h1 hf hw, tm_oneR h0 h1]
theorem LD_rs (hf : fieldB m = true) (a x : Nat → UInt8) : ∀ k, k ≤ 4 → sing m a k = false → tm m (rs m a k).d (LD m (Bx m (rs m a k).b x)) = LD m (rowF x)
  | 0, _, _ => by
    show tm m 1 (LD m (Bx m unitF x)) = _
    rw [tm_one h0 h1]
    exact LD_cong fun i hi j _ => D_unit h0 h1 _ hi
  | k + 1, hk, hs => by
    have hp := sing_piv hs k (by omega)
    have hle := piv_le (rs m a k).a (show k < 4 by omega)
    rw [sing, Bool.or_eq_false_iff] at hs
    show tm m (stepR m k (rs m a k)).d _ = _
    exact (LD_step h0 h1 hf x (by omega) (by omega)).trans (LD_rs hf a x k (by omega) hs.1)
omit h0 h1 in
theorem D_cong {a y z : Nat → UInt8} {i : Nat} (h : ∀ t, t < 4 → y t = z t) : D m a y i = D m a z i := dt_cong (fun _ _ => rfl) h
theorem D_e (a : Nat → UInt8) {i j : Nat} (hj : j < 4) : D m a (fun t => if t = j then 1 else 0) i = a (i * 4 + j) := by
  show 0 ^^^ tm m (a (i * 4 + 0)) (if 0 = j then 1 else 0) ^^^ tm m (a (i * 4 + 1)) (if 1 = j then 1 else 0) ^^^ tm m (a (i * 4 + 2)) (if 2 = j then 1 else 0) ^^^ tm m (a (i * 4 + 3)) (if 3 = j then 1 else 0) = _
  rcases c4 hj with rfl | rfl | rfl | rfl <;> simp [tm_zeroR, tm_oneR h0 h1]
theorem Bx_rs (a : Nat → UInt8) {k : Nat} (hk : k ≤ 4) (hs : sing m a k = false) {i j : Nat} (hi : i < 4) (hj : j < 4) : Bx m (rs m a k).b a i j = (rs m a k).a (i * 4 + j) := by
  rw [← D_e h0 h1 (rs m a k).a hj, ← rs_D h0 h1 a _ k hk hs i hi]
  exact D_cong fun t ht => (D_e h0 h1 a hj).symm
theorem LD_sing {a : Nat → UInt8} {k : Nat} (hf : fieldB m = true) (hk : k < 4) (hs : sing m a k = false) (hp : piv (rs m a k).a k = 4) : LD m (rowF a) = 0 := by
  rw [← LD_rs h0 h1 hf a a k (by omega) hs]
  have hU := rs_U h0 h1 hf a k (by omega) hs
  have hz : ∀ i, k ≤ i → i < 4 → (rs m a k).a (i * 4 + k) = 0 := fun i hi hi4 => by
    have hc : piv (rs m a k).a k = k + pivC (rs m a k).a k := rfl
    have := (piv_go (a := (rs m a k).a) (k := k) (r := i - k) (by omega)).2
    rw [show k + (i - k) = i by omega] at this
    simpa using this
  rw [LD_cong (s := rowF (rs m a k).a) fun i hi j hj => Bx_rs h0 h1 a (by omega) hs hi hj]
  have : LD m (rowF (rs m a k).a) = 0 := by
    generalize (rs m a k).a = e at hU hz
    unfold LD P4 P3 P2 rowF
    rcases c4 hk with rfl | rfl | rfl | rfl
    · rw [hz 0 (by omega) (by omega), hz 1 (by omega) (by omega), hz 2 (by omega) (by omega), hz 3 (by omega) (by omega)]
      simp [tm_zero, tm_zeroR]
    · rw [hU 1 (by omega) 0 (by omega), hU 2 (by omega) 0 (by omega), hU 3 (by omega) 0 (by omega), hz 1 (by omega) (by omega), hz 2 (by omega) (by omega), hz 3 (by omega) (by omega)]
      simp [tm_zero, tm_zeroR]
    · rw [hU 1 (by omega) 0 (by omega), hU 2 (by omega) 0 (by omega), hU 3 (by omega) 0 (by omega), hU 2 (by omega) 1 (by omega), hU 3 (by omega) 1 (by omega), hz 2 (by omega) (by omega), hz 3 (by omega) (by omega)]
      simp [tm_zero, tm_zeroR]
    · rw [hU 3 (by omega) 0 (by omega), hU 3 (by omega) 1 (by omega), hU 3 (by omega) 2 (by omega), hz 3 (by omega) (by omega)]
      simp [tm_zero, tm_zeroR]
  rw [this, tm_zeroR]
omit h0 h1 in
theorem sing_at {a : Nat → UInt8} : ∀ {n : Nat}, sing m a n = true → ∃ k, k < n ∧ sing m a k = false ∧ piv (rs m a k).a k = 4
  | 0, h => by simp [sing] at h
  | n + 1, h => by
    cases hs : sing m a n with
    | true =>
      obtain ⟨k, h1, h2⟩ := sing_at hs
      exact ⟨k, by omega, h2⟩
    | false =>
      rw [sing, hs, Bool.false_or] at h
      exact ⟨n, by omega, hs, by simpa using h⟩
omit h0 h1 in
theorem detF_ns {a : Nat → UInt8} (hd : detF m a ≠ 0) : sing m a 4 = false := by
  cases hs : sing m a 4 with
  | false => rfl
  | true => exact absurd (by unfold detF; rw [hs]; rfl) hd
theorem LD_unit : LD m (rowF unitF) = 1 := by
  have e : rowF unitF = fun i j => unitF (i * 4 + j) := rfl
  unfold LD P4 P3 P2 rowF
  simp only [show unitF (0 * 4 + 0) = 1 from rfl, show unitF (0 * 4 + 1) = 0 from rfl, show unitF (0 * 4 + 2) = 0 from rfl, show unitF (0 * 4 + 3) = 0 from rfl,
    show unitF (1 * 4 + 0) = 0 from rfl, show unitF (1 * 4 + 1) = 1 from rfl, show unitF (1 * 4 + 2) = 0 from rfl, show unitF (1 * 4 + 3) = 0 from rfl,
    show unitF (2 * 4 + 0) = 0 from rfl, show unitF (2 * 4 + 1) = 0 from rfl, show unitF (2 * 4 + 2) = 1 from rfl, show unitF (2 * 4 + 3) = 0 from rfl,
    show unitF (3 * 4 + 0) = 0 from rfl, show unitF (3 * 4 + 1) = 0 from rfl, show unitF (3 * 4 + 2) = 0 from rfl, show unitF (3 * 4 + 3) = 1 from rfl,
    tm_zero, tm_zeroR, tm_one h0 h1, UInt8.xor_zero, UInt8.zero_xor]
/-- The determinant is the sum of the products. -/
theorem LD_det (hf : fieldB m = true) (a : Nat → UInt8) : LD m (rowF a) = detF m a := by
  cases hs : sing m a 4 with
  | true =>
    obtain ⟨k, hk, h2, h3⟩ := sing_at hs
    rw [LD_sing h0 h1 hf hk h2 h3]
    unfold detF; rw [hs]; rfl
  | false =>
    have e : detF m a = (rs m a 4).d := by unfold detF; rw [hs]; rfl
    rw [e, ← LD_rs h0 h1 hf a a 4 (Nat.le_refl _) hs]
    have hU := rs_U h0 h1 hf a 4 (Nat.le_refl _) hs
    rw [LD_cong (s := rowF unitF) fun i hi j hj => (Bx_rs h0 h1 a (Nat.le_refl _) hs hi hj).trans (by
      rw [hU i hi j hj]
      show _ = unitF (i * 4 + j)
      unfold unitF unitP
      by_cases h : i = j
      · rw [if_pos h, if_pos (by omega)]
      · rw [if_neg h, if_neg (by omega)]), LD_unit h0 h1, tm_oneR h0 h1]
omit h0 h1 in
theorem mm_D (a b : Nat → UInt8) (i : Nat) {j : Nat} (hj : j < 4) : mmF m a b (i * 4 + j) = D m a (fun t => b (t * 4 + j)) i := by
  rw [mmF_at hj]; rfl
theorem det_mul1 (hf : fieldB m = true) {a : Nat → UInt8} (b : Nat → UInt8) (hd : detF m a ≠ 0) : detF m (mmF m a b) = tm m (detF m a) (detF m b) := by
  have hs := detF_ns hd
  have e : detF m a = (rs m a 4).d := by unfold detF; rw [hs]; rfl
  have hb : backF m a = (rs m a 4).b := by unfold backF; rw [hs]; rfl
  rw [← LD_det h0 h1 hf, ← LD_det h0 h1 hf b, ← LD_rs h0 h1 hf a (mmF m a b) 4 (Nat.le_refl _) hs, ← e, ← hb]
  congr 1
  refine LD_cong fun i hi j hj => ?_
  show D m (backF m a) (fun t => mmF m a b (t * 4 + j)) i = b (i * 4 + j)
  rw [← backF_D h0 h1 hf hd (fun t => b (t * 4 + j)) hi]
  exact D_cong fun t _ => mm_D a b t hj
omit h0 h1 in
theorem dt4 (r y : Nat → UInt8) : dt m r y 4 = 0 ^^^ tm m (r 0) (y 0) ^^^ tm m (r 1) (y 1) ^^^ tm m (r 2) (y 2) ^^^ tm m (r 3) (y 3) := rfl
omit h0 h1 in
theorem D_zeroY (a : Nat → UInt8) (i : Nat) : D m a (fun _ => 0) i = 0 := by
  show 0 ^^^ tm m _ 0 ^^^ tm m _ 0 ^^^ tm m _ 0 ^^^ tm m _ 0 = 0
  simp [tm_zeroR]
/-- What becomes 0 is 0, where the determinant is not 0. -/
theorem ker_ns (hf : fieldB m = true) {a y : Nat → UInt8} (hd : detF m a ≠ 0) (hy : ∀ i, i < 4 → D m a y i = 0) {i : Nat} (hi : i < 4) : y i = 0 := by
  rw [← backF_D h0 h1 hf hd y hi, D_cong (z := fun _ => 0) hy, D_zeroY]
theorem D_mul (a b y : Nat → UInt8) (i : Nat) : D m (mmF m a b) y i = D m a (D m b y) i := by
  show dt m (fun t => mmF m a b (i * 4 + t)) y 4 = _
  rw [dt_cong (s := fun t => D m a (fun s => b (s * 4 + t)) i) (fun t ht => mm_D a b i ht) (fun _ _ => rfl)]
  simp only [D, dt4, tm_xorL h0 h1, tm_xor, tm_assoc h0 h1, UInt8.zero_xor, tm_zero, tm_zeroR]
  ac_rfl
theorem mm_assoc (a b c : Nat → UInt8) {n : Nat} (hn : n < 16) : mmF m (mmF m a b) c n = mmF m a (mmF m b c) n := by
  obtain ⟨i, j, hi, hj, rfl⟩ : ∃ i j, i < 4 ∧ j < 4 ∧ n = i * 4 + j := ⟨n / 4, n % 4, by omega, by omega, by omega⟩
  rw [mm_D _ _ _ hj, mm_D _ _ _ hj, D_mul h0 h1]
  exact D_cong fun t _ => (mm_D b c t hj).symm
theorem mm_back (hf : fieldB m = true) {a : Nat → UInt8} (hd : detF m a ≠ 0) {n : Nat} (hn : n < 16) : mmF m (backF m a) a n = unitF n := by
  obtain ⟨i, j, hi, hj, rfl⟩ : ∃ i j, i < 4 ∧ j < 4 ∧ n = i * 4 + j := ⟨n / 4, n % 4, by omega, by omega, by omega⟩
  rw [mm_D _ _ _ hj, D_cong (z := D m a fun t => if t = j then 1 else 0) (fun t _ => (D_e h0 h1 a hj).symm), backF_D h0 h1 hf hd _ hi]
  unfold unitF unitP
  by_cases h : i = j
  · rw [if_pos h, if_pos (by omega)]
  · rw [if_neg h, if_neg (by omega)]
end
end Go.Proofs.Ytkgiocoiojdgfaa
/- Bits of matrices. Plain. -/
namespace Go.Proofs.Ytkgiocoiojdgfaa
set_option linter.unusedSimpArgs false
set_option linter.unusedVariables false
set_option maxRecDepth 20000
set_option maxHeartbeats 1000000
open Go.Abs

/-- The transposed matrix. -/
def trF (a : Nat → UInt8) : Nat → UInt8 := fun n => a (n % 4 * 4 + n / 4)
theorem trF_at {a : Nat → UInt8} {i j : Nat} (hi : i < 4) : trF a (j * 4 + i) = a (i * 4 + j) := by
  unfold trF; rw [show (j * 4 + i) % 4 = i by omega, show (j * 4 + i) / 4 = j by omega]
theorem trF_two (a : Nat → UInt8) {n : Nat} (hn : n < 16) : trF (trF a) n = a n := by
  unfold trF; congr 1; omega
/-- Filled column by column. -/
def tsS (a : Nat → UInt8) (i j : Nat) : Nat → UInt8 := fun n => if n < 16 ∧ (n % 4 < i ∨ (n % 4 = i ∧ n / 4 < j)) then trF a n else 0
theorem tsS_zero (a : Nat → UInt8) : tsS a 0 0 = fun _ => 0 := by funext n; unfold tsS; rw [if_neg (by omega)]
theorem tsS_next (a : Nat → UInt8) (i : Nat) : tsS a i 4 = tsS a (i + 1) 0 := by
  funext n; unfold tsS
  by_cases h : n < 16 ∧ (n % 4 < i ∨ (n % 4 = i ∧ n / 4 < 4))
  · rw [if_pos h, if_pos (by omega)]
  · rw [if_neg h, if_neg (by omega)]
theorem tsS_set {a : Nat → UInt8} {i j : Nat} (hi : i < 4) (hj : j < 4) : upd (tsS a i j) (j * 4 + i) (a (i * 4 + j)) = tsS a i (j + 1) := by
  funext n; unfold upd
  by_cases h : n = j * 4 + i
  · subst h; rw [if_pos rfl, ← trF_at (a := a) (j := j) hi]; unfold tsS; rw [if_pos (by omega)]
  · rw [if_neg h]; unfold tsS
    by_cases h2 : n < 16 ∧ (n % 4 < i ∨ (n % 4 = i ∧ n / 4 < j))
    · rw [if_pos h2, if_pos (by omega)]
    · rw [if_neg h2, if_neg (by omega)]
theorem tsS_all (a : Nat → UInt8) : Bs 16 (tsS a 4 0) = Bs 16 (trF a) := Bs_congr fun n hn => by unfold tsS; rw [if_pos (by omega)]

/-- A bit of a matrix of bits. -/
def bitR (m : Nat) (a : Nat → UInt8) (q c : Nat) : Nat := ((tm m (a (q / 8 * 4 + c / 8)) (UInt8.ofNat (2 ^ (c % 8)))).toNat >>> (q % 8)) &&& 1
theorem bitR_le (m : Nat) (a : Nat → UInt8) (q c : Nat) : bitR m a q c ≤ 1 := by unfold bitR; exact Nat.and_le_right
/-- The first c bits of a row. -/
def orP (m : Nat) (a : Nat → UInt8) (q : Nat) : Nat → Nat
  | 0 => 0
  | c + 1 => orP m a q c ||| (bitR m a q c <<< c)
theorem orP_lt (m : Nat) (a : Nat → UInt8) (q : Nat) : ∀ c, orP m a q c < 2 ^ c
  | 0 => Nat.two_pow_pos 0
  | c + 1 => by
    unfold orP
    refine Nat.or_lt_two_pow (Nat.lt_of_lt_of_le (orP_lt m a q c) (Nat.pow_le_pow_right (by omega) (by omega))) ?_
    rw [Nat.shiftLeft_eq, Nat.pow_succ, Nat.mul_comm]
    have := bitR_le m a q c
    exact Nat.lt_of_le_of_lt (Nat.mul_le_mul_left _ this) (Nat.mul_lt_mul_of_pos_left (by omega) (Nat.two_pow_pos c))
theorem bit_shl {x c i : Nat} (hx : x ≤ 1) : (x <<< c).testBit i = (decide (i = c) && decide (x = 1)) := by
  rw [Nat.testBit_shiftLeft]
  by_cases h : i = c
  · subst h
    rw [decide_eq_true (show i ≥ i from Nat.le_refl _), Nat.sub_self, decide_eq_true rfl, Bool.true_and, Bool.true_and, Nat.testBit_zero]
    have : x = 0 ∨ x = 1 := by omega
    rcases this with rfl | rfl <;> rfl
  · rw [decide_eq_false h, Bool.false_and]
    by_cases h2 : i ≥ c
    · rw [decide_eq_true h2, Bool.true_and, Nat.testBit_lt_two_pow (Nat.lt_of_le_of_lt hx (Nat.one_lt_two_pow (by omega)))]
    · rw [decide_eq_false h2, Bool.false_and]
theorem orP_bit (m : Nat) (a : Nat → UInt8) (q : Nat) : ∀ c i, (orP m a q c).testBit i = (decide (i < c) && decide (bitR m a q i = 1))
  | 0, i => by rw [show orP m a q 0 = 0 from rfl, Nat.zero_testBit, decide_eq_false (Nat.not_lt_zero i), Bool.false_and]
  | c + 1, i => by
    unfold orP
    rw [Nat.testBit_or, orP_bit m a q c i, bit_shl (bitR_le m a q c)]
    by_cases h : i = c
    · subst h; rw [decide_eq_false (Nat.lt_irrefl i), decide_eq_true rfl, decide_eq_true (Nat.lt_succ_self i)]; simp
    · rw [decide_eq_false h, Bool.false_and, Bool.or_false]
      congr 1
      exact decide_eq_decide.2 (by omega)
/-- The rows. -/
def rowB (m : Nat) (a : Nat → UInt8) : Nat → Int := fun q => ((orP m a q 32 : Nat) : Int)
/-- The rows, partly filled: those of the first i blocks whole, those of the next with c bits, and one more of the first t of it. -/
def rowC (m : Nat) (a : Nat → UInt8) (i c t : Nat) : Nat → Int := fun q => ((orP m a q (if q / 8 < i then 32 else if q / 8 = i then (if q % 8 < t then c + 1 else c) else 0) : Nat) : Int)
theorem rowC_zero (m : Nat) (a : Nat → UInt8) : rowC m a 0 0 0 = fun _ => 0 := by
  funext q; unfold rowC
  rw [if_neg (Nat.not_lt_zero _), if_neg (show ¬ q % 8 < 0 by omega)]
  split <;> rfl
theorem rowC_next (m : Nat) (a : Nat → UInt8) (i c : Nat) : rowC m a i c 8 = rowC m a i (c + 1) 0 := by
  funext q; unfold rowC
  rw [if_pos (show q % 8 < 8 by omega), if_neg (show ¬ q % 8 < 0 by omega)]
theorem rowC_row (m : Nat) (a : Nat → UInt8) (i : Nat) : rowC m a i 32 0 = rowC m a (i + 1) 0 0 := by
  funext q; unfold rowC
  simp only [if_neg (show ¬ q % 8 < 0 by omega)]
  by_cases h1 : q / 8 < i
  · rw [if_pos h1, if_pos (by omega)]
  · rw [if_neg h1]
    by_cases h2 : q / 8 = i
    · rw [if_pos h2, if_pos (by omega)]
    · rw [if_neg h2, if_neg (by omega)]
      split <;> rfl
theorem rowC_at {m : Nat} {a : Nat → UInt8} {i c t : Nat} (ht : t < 8) : rowC m a i c t (8 * i + t) = ((orP m a (8 * i + t) c : Nat) : Int) := by
  unfold rowC
  rw [if_neg (by omega), if_pos (by omega), if_neg (by omega)]
theorem rowC_set {m : Nat} {a : Nat → UInt8} {i c t : Nat} (ht : t < 8) : upd (rowC m a i c t) (8 * i + t) ((orP m a (8 * i + t) (c + 1) : Nat) : Int) = rowC m a i c (t + 1) := by
  funext q; unfold upd
  by_cases h : q = 8 * i + t
  · subst h; rw [if_pos rfl]; unfold rowC; rw [if_neg (by omega), if_pos (by omega), if_pos (by omega)]
  · rw [if_neg h]; unfold rowC
    by_cases h1 : q / 8 < i
    · rw [if_pos h1, if_pos h1]
    · rw [if_neg h1, if_neg h1]
      by_cases h2 : q / 8 = i
      · rw [if_pos h2, if_pos h2]
        by_cases h3 : q % 8 < t
        · rw [if_pos h3, if_pos (by omega)]
        · rw [if_neg h3, if_neg (by omega)]
      · rw [if_neg h2, if_neg h2]
theorem rowC_all (m : Nat) (a : Nat → UInt8) : Is 32 (rowC m a 4 0 0) = Is 32 (rowB m a) := by
  unfold Is
  refine List.map_congr_left fun q hq => ?_
  have := List.mem_range.1 hq
  unfold rowC rowB
  rw [if_pos (by omega)]
theorem Is_snocN (n : Nat) (f : Nat → Int) : Is n f ++ [.int .i64 (f n)] = Is (n + 1) f := by unfold Is; rw [List.range_succ, List.map_append]; rfl
theorem u8_bit (x : UInt8) {i : Nat} : (UInt8.ofNat (x.toNat >>> i) &&& 1).toNat = (x.toNat >>> i) &&& 1 := by
  have hx := u8_lt x
  have hs := Nat.shiftRight_le x.toNat i
  rw [UInt8.toNat_and, u8_ofNat_toNat (by omega)]; rfl
end Go.Proofs.Ytkgiocoiojdgfaa
/- Lists of numbers: the comparers and markers of the laws' package. -/
namespace Go.Proofs.Ytkgiocoiojdgfaa
set_option linter.unusedSimpArgs false
set_option linter.unusedVariables false
set_option maxRecDepth 20000
set_option maxHeartbeats 1000000
open Go.Abs

theorem Is_congr {n : Nat} {f g : Nat → Int} (h : ∀ i, i < n → f i = g i) : Is n f = Is n g := by
  unfold Is
  exact List.map_congr_left fun i hi => by rw [h i (List.mem_range.1 hi)]
theorem sub1 (v : Value) : sub [v] 0 1 = [v] := rfl
theorem lit1I (v : Value) : splice (repA [Value.int .i64 0] 1) (0 * 1) [v] = [v] := by rw [repA_one]; rfl

end Go.Proofs.Ytkgiocoiojdgfaa
/- Draws: numbers that follow from a code. -/
namespace Go.Proofs.Ytkgiocoiojdgfaa
set_option linter.unusedSimpArgs false
set_option linter.unusedVariables false
set_option maxRecDepth 20000
set_option maxHeartbeats 1000000
open Go.Abs

/-- The code of a source: nil, or bytes in a block of their own. -/
inductive Cd (h : List Blk) (b : Nat) : Value → Nat → (Nat → UInt8) → Prop
  | nil (f : Nat → UInt8) : Cd h b (.slice none 0 0) 0 f
  | sl (f : Nat → UInt8) {bc n : Nat} {rc : Bool} (hb : h[bc]? = some ⟨Bs n f, rc⟩) (hne : bc ≠ b) : Cd h b (sl bc 0 n 1) n f
theorem Cd.set {h : List Blk} {b n : Nat} {cv : Value} {f : Nat → UInt8} (c : Cd h b cv n f) (x : Blk) : Cd (h.set b x) b cv n f := by
  cases c with
  | nil => exact .nil f
  | sl _ hb hne => exact .sl f (set_at hb hne.symm) hne
theorem Cd.app {h : List Blk} {b n : Nat} {cv : Value} {f : Nat → UInt8} (c : Cd h b cv n f) (L : List Blk) : Cd (h ++ L) b cv n f := by
  cases c with
  | nil => exact .nil f
  | sl _ hb hne => exact .sl f (look_old hb L) hne
/-- A source's block. -/
def Src (h : List Blk) (b : Nat) (cv : Value) (k : Blk) : Prop := ∃ (at' : Nat) (hs : Int) (n : Nat) (f : Nat → UInt8), k = ⟨Sr cv at' hs, true⟩ ∧ at' ≤ n ∧ n ≤ 4096 ∧ Cd h b cv n f
theorem Src.set {h : List Blk} {b : Nat} {cv : Value} {k : Blk} (s : Src h b cv k) (x : Blk) : Src (h.set b x) b cv k := by
  obtain ⟨a, hs, n, f, e, h1, h2, c⟩ := s
  exact ⟨a, hs, n, f, e, h1, h2, c.set x⟩
theorem Src.app {h : List Blk} {b : Nat} {cv : Value} {k : Blk} (s : Src h b cv k) (L : List Blk) : Src (h ++ L) b cv k := by
  obtain ⟨a, hs, n, f, e, h1, h2, c⟩ := s
  exact ⟨a, hs, n, f, e, h1, h2, c.app L⟩
theorem set_app {h : List Blk} {b : Nat} (hb : b < h.length) (x : Blk) (L : List Blk) : (h ++ L).set b x = h.set b x ++ L := List.set_append_left _ _ hb

def nxH (hs : Int) : Int := IntKind.u64.wrap (IntKind.u64.wrap (hs * 6364136223846793005) + 1442695040888963407)
theorem and24 (x : Int) : ∃ q : Nat, q < 16777216 ∧ bits .and .u64 x 16777215 = ((q : Nat) : Int) := by
  refine ⟨((BitVec.ofInt 64 x) &&& (BitVec.ofInt 64 16777215)).toNat, ?_, ?_⟩
  · rw [BitVec.toNat_and]
    have : (BitVec.ofInt 64 16777215).toNat = 16777215 := by decide
    rw [this]
    exact Nat.lt_of_le_of_lt Nat.and_le_right (by omega)
  · show IntKind.u64.wrap ((((BitVec.ofInt 64 x) &&& (BitVec.ofInt 64 16777215)).toNat : Nat) : Int) = _
    have h1 : ((BitVec.ofInt 64 x) &&& (BitVec.ofInt 64 16777215)).toNat < 2 ^ 64 := BitVec.isLt _
    exact wrap_u64 (by omega) (by omega)
theorem next_ex {h : List Blk} {b : Nat} {cv : Value} {k : Blk} (hb : h[b]? = some k) (hk : Src h b cv k) {N : Nat} (hN : 0 < N) (hN2 : N ≤ 1125899906842624) :
    ∃ (x : Nat) (k' : Blk), x < N ∧ Src h b cv k' ∧ AC Try.prog 143 [pt b 0, .int .i64 N] h (.int .i64 x) (h.set b k') := by
  obtain ⟨a, hs, n, f, rfl, h1, h2, c⟩ := hk
  have hbl := blt hb
  obtain ⟨q, hq, e⟩ := and24 ((nxH hs).fdiv (2 ^ (min 33 64)))
  cases c with
  | nil =>
    refine ⟨q % N, ⟨Sr (.slice none 0 0) a (nxH hs), true⟩, Nat.mod_lt _ hN, ⟨a, _, 0, f, rfl, h1, h2, .nil f⟩, ?_⟩
    have hz : decide (N < 1) = false := decide_eq_false (by omega)
    have ha : decide (a < 0) = false := decide_eq_false (by omega)
    (refine AC_begin (fun _ _ => Try.call143 _ _) Try.func143 rfl Try.ntmps143 Try.results143 (fun hwf => ?_); simp only [List.length_cons, List.length_nil, Nat.reduceAdd, Nat.reduceSub, List.replicate, List.cons_append, List.nil_append])
    (repeat (first | ((first | (refine And.intro ?_ ?_; focus (first | exact plain_agg (by simp only [go_sem]) | exact plain_two (by first | exact plain_agg (by simp only [go_sem]) | rfl) rfl | rfl)) | refine WA_seq (WA_region ?_) | refine WA_region ?_ | refine WA_exit ?_); try simp (maxSteps := 1000000) (disch := first | omega | rfl | decide | (simp only [List.length_cons, List.length_nil, List.length_append, Bs_length, Is_length, Vs_length, Bl_length, Il_length] <;> omega)) only [go_sem, Nat.reduceAdd, Int.reduceAdd, Int.reduceSub, Int.reduceMul, Bool.not_true, Bool.not_false, hb, look_set hbl, List.set_set, hz, ha, show IntKind.u64.wrap (IntKind.u64.wrap (hs * 6364136223846793005) + 1442695040888963407) = nxH hs from rfl, e]) | (refine WA_seq (WA_draw (id := 5) mixedOk (by kernel_rfl) ?_); simp (maxSteps := 1000000) (disch := first | omega | rfl | decide | (simp only [List.length_cons, List.length_nil, List.length_append, Bs_length, Is_length, Vs_length, Bl_length, Il_length] <;> omega)) only [go_sem, Nat.reduceAdd, Int.reduceAdd, Int.reduceSub, Int.reduceMul, Bool.not_true, Bool.not_false, hb, look_set hbl, List.set_set, hz, ha, show IntKind.u64.wrap (IntKind.u64.wrap (hs * 6364136223846793005) + 1442695040888963407) = nxH hs from rfl, e]) | (refine WA_draw (id := 5) mixedOk (by kernel_rfl) ?_; simp (maxSteps := 1000000) (disch := first | omega | rfl | decide | (simp only [List.length_cons, List.length_nil, List.length_append, Bs_length, Is_length, Vs_length, Bl_length, Il_length] <;> omega)) only [go_sem, Nat.reduceAdd, Int.reduceAdd, Int.reduceSub, Int.reduceMul, Bool.not_true, Bool.not_false, hb, look_set hbl, List.set_set, hz, ha, show IntKind.u64.wrap (IntKind.u64.wrap (hs * 6364136223846793005) + 1442695040888963407) = nxH hs from rfl, e]) | (refine WA_seq (WA_draw (id := 6) mixedOk (by kernel_rfl) ?_); simp (maxSteps := 1000000) (disch := first | omega | rfl | decide | (simp only [List.length_cons, List.length_nil, List.length_append, Bs_length, Is_length, Vs_length, Bl_length, Il_length] <;> omega)) only [go_sem, Nat.reduceAdd, Int.reduceAdd, Int.reduceSub, Int.reduceMul, Bool.not_true, Bool.not_false, hb, look_set hbl, List.set_set, hz, ha, show IntKind.u64.wrap (IntKind.u64.wrap (hs * 6364136223846793005) + 1442695040888963407) = nxH hs from rfl, e]) | (refine WA_draw (id := 6) mixedOk (by kernel_rfl) ?_; simp (maxSteps := 1000000) (disch := first | omega | rfl | decide | (simp only [List.length_cons, List.length_nil, List.length_append, Bs_length, Is_length, Vs_length, Bl_length, Il_length] <;> omega)) only [go_sem, Nat.reduceAdd, Int.reduceAdd, Int.reduceSub, Int.reduceMul, Bool.not_true, Bool.not_false, hb, look_set hbl, List.set_set, hz, ha, show IntKind.u64.wrap (IntKind.u64.wrap (hs * 6364136223846793005) + 1442695040888963407) = nxH hs from rfl, e]) | refine WA_seq ?_ | refine WA_block ?_ | (refine WA_skip ?_; try simp only [go_sem]) | (refine WA_ret ?_; try simp only [go_sem]) | refine WA_ct rfl ?_ | refine WA_cf rfl ?_))
    ((first | refine ret_none (by first | exact .inr rfl | exact .inl rfl) ?_ | refine ret_same (by first | exact .inr rfl | exact .inl rfl) ?_ (by first | rfl | exact plain_agg (by simp only [go_sem]) | exact plain_two (by first | exact plain_agg (by simp only [go_sem]) | rfl) (by first | exact plain_agg (by simp only [go_sem]) | rfl)) | refine ret_full (by first | exact .inr rfl | exact .inl rfl) (by simp) ?_); simp (maxSteps := 1000000) (disch := first | omega | rfl | decide | (simp only [List.length_cons, List.length_nil, List.length_append, Bs_length, Is_length, Vs_length, Bl_length, Il_length] <;> omega)) only [go_sem, Nat.reduceAdd, Int.reduceAdd, Int.reduceSub, Int.reduceMul, Bool.not_true, Bool.not_false]; try rfl)
  | sl _ hc hne =>
    have hc2 := fun (x : Blk) => set_at (x := x) hc hne.symm
    have hz : decide (N < 1) = false := decide_eq_false (by omega)
    by_cases ha : a < n
    · have hf := u8_lt (f a)
      refine ⟨(q + (f a).toNat) % N, ⟨Sr _ ((a + 1 : Nat) : Int) (nxH hs), true⟩, Nat.mod_lt _ hN, ⟨a + 1, _, n, f, rfl, by omega, h2, .sl f hc hne⟩, ?_⟩
      (refine AC_begin (fun _ _ => Try.call143 _ _) Try.func143 rfl Try.ntmps143 Try.results143 (fun hwf => ?_); simp only [List.length_cons, List.length_nil, Nat.reduceAdd, Nat.reduceSub, List.replicate, List.cons_append, List.nil_append])
      (repeat (first | ((first | (refine And.intro ?_ ?_; focus (first | exact plain_agg (by simp only [go_sem]) | exact plain_two (by first | exact plain_agg (by simp only [go_sem]) | rfl) rfl | rfl)) | refine WA_seq (WA_region ?_) | refine WA_region ?_ | refine WA_exit ?_); try simp (maxSteps := 1000000) (disch := first | omega | rfl | decide | (simp only [List.length_cons, List.length_nil, List.length_append, Bs_length, Is_length, Vs_length, Bl_length, Il_length] <;> omega)) only [go_sem, Nat.reduceAdd, Int.reduceAdd, Int.reduceSub, Int.reduceMul, Bool.not_true, Bool.not_false, hb, look_set hbl, List.set_set, hc2, hz, decide_eq_true ha, show IntKind.u64.wrap (IntKind.u64.wrap (hs * 6364136223846793005) + 1442695040888963407) = nxH hs from rfl, e]) | (refine WA_seq (WA_draw (id := 5) mixedOk (by kernel_rfl) ?_); simp (maxSteps := 1000000) (disch := first | omega | rfl | decide | (simp only [List.length_cons, List.length_nil, List.length_append, Bs_length, Is_length, Vs_length, Bl_length, Il_length] <;> omega)) only [go_sem, Nat.reduceAdd, Int.reduceAdd, Int.reduceSub, Int.reduceMul, Bool.not_true, Bool.not_false, hb, look_set hbl, List.set_set, hc2, hz, decide_eq_true ha, show IntKind.u64.wrap (IntKind.u64.wrap (hs * 6364136223846793005) + 1442695040888963407) = nxH hs from rfl, e]) | (refine WA_draw (id := 5) mixedOk (by kernel_rfl) ?_; simp (maxSteps := 1000000) (disch := first | omega | rfl | decide | (simp only [List.length_cons, List.length_nil, List.length_append, Bs_length, Is_length, Vs_length, Bl_length, Il_length] <;> omega)) only [go_sem, Nat.reduceAdd, Int.reduceAdd, Int.reduceSub, Int.reduceMul, Bool.not_true, Bool.not_false, hb, look_set hbl, List.set_set, hc2, hz, decide_eq_true ha, show IntKind.u64.wrap (IntKind.u64.wrap (hs * 6364136223846793005) + 1442695040888963407) = nxH hs from rfl, e]) | (refine WA_seq (WA_draw (id := 6) mixedOk (by kernel_rfl) ?_); simp (maxSteps := 1000000) (disch := first | omega | rfl | decide | (simp only [List.length_cons, List.length_nil, List.length_append, Bs_length, Is_length, Vs_length, Bl_length, Il_length] <;> omega)) only [go_sem, Nat.reduceAdd, Int.reduceAdd, Int.reduceSub, Int.reduceMul, Bool.not_true, Bool.not_false, hb, look_set hbl, List.set_set, hc2, hz, decide_eq_true ha, show IntKind.u64.wrap (IntKind.u64.wrap (hs * 6364136223846793005) + 1442695040888963407) = nxH hs from rfl, e]) | (refine WA_draw (id := 6) mixedOk (by kernel_rfl) ?_; simp (maxSteps := 1000000) (disch := first | omega | rfl | decide | (simp only [List.length_cons, List.length_nil, List.length_append, Bs_length, Is_length, Vs_length, Bl_length, Il_length] <;> omega)) only [go_sem, Nat.reduceAdd, Int.reduceAdd, Int.reduceSub, Int.reduceMul, Bool.not_true, Bool.not_false, hb, look_set hbl, List.set_set, hc2, hz, decide_eq_true ha, show IntKind.u64.wrap (IntKind.u64.wrap (hs * 6364136223846793005) + 1442695040888963407) = nxH hs from rfl, e]) | refine WA_seq ?_ | refine WA_block ?_ | (refine WA_skip ?_; try simp only [go_sem]) | (refine WA_ret ?_; try simp only [go_sem]) | refine WA_ct rfl ?_ | refine WA_cf rfl ?_))
      ((first | refine ret_none (by first | exact .inr rfl | exact .inl rfl) ?_ | refine ret_same (by first | exact .inr rfl | exact .inl rfl) ?_ (by first | rfl | exact plain_agg (by simp only [go_sem]) | exact plain_two (by first | exact plain_agg (by simp only [go_sem]) | rfl) (by first | exact plain_agg (by simp only [go_sem]) | rfl)) | refine ret_full (by first | exact .inr rfl | exact .inl rfl) (by simp) ?_); simp (maxSteps := 1000000) (disch := first | omega | rfl | decide | (simp only [List.length_cons, List.length_nil, List.length_append, Bs_length, Is_length, Vs_length, Bl_length, Il_length] <;> omega)) only [go_sem, Nat.reduceAdd, Int.reduceAdd, Int.reduceSub, Int.reduceMul, Bool.not_true, Bool.not_false]; try rfl)
    · refine ⟨q % N, ⟨Sr _ a (nxH hs), true⟩, Nat.mod_lt _ hN, ⟨a, _, n, f, rfl, h1, h2, .sl f hc hne⟩, ?_⟩
      (refine AC_begin (fun _ _ => Try.call143 _ _) Try.func143 rfl Try.ntmps143 Try.results143 (fun hwf => ?_); simp only [List.length_cons, List.length_nil, Nat.reduceAdd, Nat.reduceSub, List.replicate, List.cons_append, List.nil_append])
      (repeat (first | ((first | (refine And.intro ?_ ?_; focus (first | exact plain_agg (by simp only [go_sem]) | exact plain_two (by first | exact plain_agg (by simp only [go_sem]) | rfl) rfl | rfl)) | refine WA_seq (WA_region ?_) | refine WA_region ?_ | refine WA_exit ?_); try simp (maxSteps := 1000000) (disch := first | omega | rfl | decide | (simp only [List.length_cons, List.length_nil, List.length_append, Bs_length, Is_length, Vs_length, Bl_length, Il_length] <;> omega)) only [go_sem, Nat.reduceAdd, Int.reduceAdd, Int.reduceSub, Int.reduceMul, Bool.not_true, Bool.not_false, hb, look_set hbl, List.set_set, hz, decide_eq_false ha, show IntKind.u64.wrap (IntKind.u64.wrap (hs * 6364136223846793005) + 1442695040888963407) = nxH hs from rfl, e]) | (refine WA_seq (WA_draw (id := 5) mixedOk (by kernel_rfl) ?_); simp (maxSteps := 1000000) (disch := first | omega | rfl | decide | (simp only [List.length_cons, List.length_nil, List.length_append, Bs_length, Is_length, Vs_length, Bl_length, Il_length] <;> omega)) only [go_sem, Nat.reduceAdd, Int.reduceAdd, Int.reduceSub, Int.reduceMul, Bool.not_true, Bool.not_false, hb, look_set hbl, List.set_set, hz, decide_eq_false ha, show IntKind.u64.wrap (IntKind.u64.wrap (hs * 6364136223846793005) + 1442695040888963407) = nxH hs from rfl, e]) | (refine WA_draw (id := 5) mixedOk (by kernel_rfl) ?_; simp (maxSteps := 1000000) (disch := first | omega | rfl | decide | (simp only [List.length_cons, List.length_nil, List.length_append, Bs_length, Is_length, Vs_length, Bl_length, Il_length] <;> omega)) only [go_sem, Nat.reduceAdd, Int.reduceAdd, Int.reduceSub, Int.reduceMul, Bool.not_true, Bool.not_false, hb, look_set hbl, List.set_set, hz, decide_eq_false ha, show IntKind.u64.wrap (IntKind.u64.wrap (hs * 6364136223846793005) + 1442695040888963407) = nxH hs from rfl, e]) | (refine WA_seq (WA_draw (id := 6) mixedOk (by kernel_rfl) ?_); simp (maxSteps := 1000000) (disch := first | omega | rfl | decide | (simp only [List.length_cons, List.length_nil, List.length_append, Bs_length, Is_length, Vs_length, Bl_length, Il_length] <;> omega)) only [go_sem, Nat.reduceAdd, Int.reduceAdd, Int.reduceSub, Int.reduceMul, Bool.not_true, Bool.not_false, hb, look_set hbl, List.set_set, hz, decide_eq_false ha, show IntKind.u64.wrap (IntKind.u64.wrap (hs * 6364136223846793005) + 1442695040888963407) = nxH hs from rfl, e]) | (refine WA_draw (id := 6) mixedOk (by kernel_rfl) ?_; simp (maxSteps := 1000000) (disch := first | omega | rfl | decide | (simp only [List.length_cons, List.length_nil, List.length_append, Bs_length, Is_length, Vs_length, Bl_length, Il_length] <;> omega)) only [go_sem, Nat.reduceAdd, Int.reduceAdd, Int.reduceSub, Int.reduceMul, Bool.not_true, Bool.not_false, hb, look_set hbl, List.set_set, hz, decide_eq_false ha, show IntKind.u64.wrap (IntKind.u64.wrap (hs * 6364136223846793005) + 1442695040888963407) = nxH hs from rfl, e]) | refine WA_seq ?_ | refine WA_block ?_ | (refine WA_skip ?_; try simp only [go_sem]) | (refine WA_ret ?_; try simp only [go_sem]) | refine WA_ct rfl ?_ | refine WA_cf rfl ?_))
      ((first | refine ret_none (by first | exact .inr rfl | exact .inl rfl) ?_ | refine ret_same (by first | exact .inr rfl | exact .inl rfl) ?_ (by first | rfl | exact plain_agg (by simp only [go_sem]) | exact plain_two (by first | exact plain_agg (by simp only [go_sem]) | rfl) (by first | exact plain_agg (by simp only [go_sem]) | rfl)) | refine ret_full (by first | exact .inr rfl | exact .inl rfl) (by simp) ?_); simp (maxSteps := 1000000) (disch := first | omega | rfl | decide | (simp only [List.length_cons, List.length_nil, List.length_append, Bs_length, Is_length, Vs_length, Bl_length, Il_length] <;> omega)) only [go_sem, Nat.reduceAdd, Int.reduceAdd, Int.reduceSub, Int.reduceMul, Bool.not_true, Bool.not_false]; try rfl)

end Go.Proofs.Ytkgiocoiojdgfaa
/- Draws of fields, bytes and numbers. -/
namespace Go.Proofs.Ytkgiocoiojdgfaa
set_option linter.unusedSimpArgs false
set_option linter.unusedVariables false
set_option maxRecDepth 20000
set_option maxHeartbeats 1000000
open Go.Abs

def SrcAt (h : List Blk) (b : Nat) (cv : Value) : Prop := ∃ k, h[b]? = some k ∧ Src h b cv k
/-- What a draw leaves of memory. -/
structure Aft (h h' : List Blk) (b : Nat) (cv : Value) : Prop where
  src : SrcAt h' b cv
  keep : ∀ (i : Nat) (x : Blk), i ≠ b → h[i]? = some x → h'[i]? = some x
  app : ∀ h0 : List Blk, h0.length ≤ b → (∃ L, h = h0 ++ L) → ∃ L, h' = h0 ++ L
  len : h.length ≤ h'.length
theorem SrcAt.lt {h : List Blk} {b : Nat} {cv : Value} (s : SrcAt h b cv) : b < h.length := by obtain ⟨k, hb, _⟩ := s; exact blt hb
theorem SrcAt.more {h : List Blk} {b : Nat} {cv : Value} (s : SrcAt h b cv) (L : List Blk) : Aft h (h ++ L) b cv := by
  obtain ⟨k, hb, hk⟩ := s
  exact ⟨⟨k, look_old hb L, hk.app L⟩, fun _ _ _ hx => look_old hx L, fun h0 _ ⟨A, e⟩ => ⟨A ++ L, by rw [e, List.append_assoc]⟩, by simp⟩
theorem Aft.trans {h h' h'' : List Blk} {b : Nat} {cv : Value} (x : Aft h h' b cv) (y : Aft h' h'' b cv) : Aft h h'' b cv :=
  ⟨y.src, fun i k hi hx => y.keep i k hi (x.keep i k hi hx), fun h0 hl e => y.app h0 hl (x.app h0 hl e), Nat.le_trans x.len y.len⟩
theorem app_set' {h0 L : List Blk} {i : Nat} (hi : h0.length ≤ i) (x : Blk) : ∃ L', (h0 ++ L).set i x = h0 ++ L' := ⟨L.set (i - h0.length) x, List.set_append_right _ _ hi⟩
theorem aft_set {h : List Blk} {b : Nat} {cv : Value} {k : Blk} (hl : b < h.length) (hk : Src h b cv k) : Aft h (h.set b k) b cv :=
  ⟨⟨k, look_set hl, hk.set k⟩, fun i x hi hx => set_at hx hi.symm, fun h0 hb ⟨L, e⟩ => by subst e; exact app_set' hb k, by simp⟩
def isI : Value → Bool
  | .int .i64 _ => true
  | _ => false
theorem ints_at : ∀ {cs : List Value} {n : Nat}, cs.all isI = true → n ≤ cs.length → ∀ i, i < n → ∃ v, cs[i]? = some (.int .i64 v)
  | [], n, _, h, i, hi => absurd h (by simp; omega)
  | c :: cs, n, h, hl, i, hi => by
    rw [List.all_cons, Bool.and_eq_true] at h
    cases i with
    | zero =>
      cases c with
      | int k v => cases k <;> first | exact ⟨v, rfl⟩ | exact absurd h.1 (by simp [isI])
      | _ => exact absurd h.1 (by simp [isI])
    | succ i => exact ints_at (cs := cs) (n := n - 1) h.2 (by simp at hl; omega) i (by omega)
theorem next_aft {h : List Blk} {b : Nat} {cv : Value} (s : SrcAt h b cv) {N : Nat} (hN : 0 < N) (hN2 : N ≤ 1125899906842624) :
    ∃ (x : Nat) (h' : List Blk), x < N ∧ Aft h h' b cv ∧ AC Try.prog 143 [pt b 0, .int .i64 N] h (.int .i64 x) h' := by
  obtain ⟨k, hb, hk⟩ := s
  obtain ⟨x, k', hx, hk', hc⟩ := next_ex hb hk hN hN2
  exact ⟨x, _, hx, aft_set (blt hb) hk', hc⟩

theorem pick_aft {h : List Blk} {b : Nat} {cv : Value} (s : SrcAt h b cv) {bl n : Nat} {cs : List Value} {r : Bool} (hl : h[bl]? = some ⟨cs, r⟩) (hne : bl ≠ b) (hn : 0 < n) (hn2 : n ≤ 1000) (hcs : ∀ i, i < n → ∃ v, cs[i]? = some (.int .i64 v)) :
    ∃ (v : Int) (h' : List Blk), (∃ i, i < n ∧ cs[i]? = some (.int .i64 v)) ∧ Aft h h' b cv ∧ AC Try.prog 142 [pt b 0, sl bl 0 n 1] h (.int .i64 v) h' := by
  obtain ⟨x, h1, hx, a1, c1⟩ := next_aft s hn (by omega)
  obtain ⟨v, hv⟩ := hcs x hx
  have hl1 := a1.keep _ _ hne hl
  refine ⟨v, h1, ⟨x, hx, hv⟩, a1, ?_⟩
  have hlen := a1.len
  (refine AC_begin (fun _ _ => Try.call142 _ _) Try.func142 rfl Try.ntmps142 Try.results142 (fun hwf => ?_); simp only [List.length_cons, List.length_nil, Nat.reduceAdd, Nat.reduceSub, List.replicate, List.cons_append, List.nil_append])
  (repeat (first | ((first | (refine And.intro ?_ ?_; focus (first | exact plain_agg (by simp only [go_sem]) | exact plain_two (by first | exact plain_agg (by simp only [go_sem]) | rfl) rfl | rfl)) | ((first | with_reducible apply callB_i | with_reducible apply callK_intro | with_reducible apply callQ_i); (focus (first | assumption | (with_reducible apply c1 <;> (first | assumption | rfl | (simp (disch := omega) only [go_sem]; first | done | rfl) | omega | decide | (simp; done))))); (try (focus (refine WP.mk ?_ ?_; (focus ((repeat (first | exact trivial | (refine And.intro ?_ ?_; (focus first | exact plainV_wf rfl | (refine plainV_wf (plain_agg ?_); simp only [go_sem]; done) | (simp only [wfV, wf1, wfC, List.length_append, List.length_cons, List.length_nil]; omega))))))); (focus (first | rfl | (refine plain_agg ?_; simp only [go_sem]; done) | (refine plain_two ?_ ?_ <;> first | rfl | (refine plain_agg ?_; simp only [go_sem]; done)))))))) | refine WA_seq (WA_region ?_) | refine WA_region ?_ | refine WA_exit ?_); try simp (maxSteps := 1000000) (disch := first | omega | rfl | decide | (simp only [List.length_cons, List.length_nil, List.length_append, Bs_length, Is_length, Vs_length, Bl_length, Il_length] <;> omega)) only [go_sem, Nat.reduceAdd, Int.reduceAdd, Int.reduceSub, Int.reduceMul, Bool.not_true, Bool.not_false, hl1, hv]) | refine WA_seq ?_ | refine WA_block ?_ | (refine WA_skip ?_; try simp only [go_sem]) | (refine WA_ret ?_; try simp only [go_sem]) | refine WA_ct rfl ?_ | refine WA_cf rfl ?_))
  refine ret_full (by first | exact .inr rfl | exact .inl rfl) hlen ?_
  simp (maxSteps := 1000000) (disch := first | omega | rfl | decide | (simp only [List.length_cons, List.length_nil, List.length_append, Bs_length, Is_length, Vs_length, Bl_length, Il_length] <;> omega)) only [go_sem, Nat.reduceAdd, Int.reduceAdd, Int.reduceSub, Int.reduceMul, Bool.not_true, Bool.not_false]
  try rfl

theorem pickL_aft {h : List Blk} {b : Nat} {cv : Value} (s : SrcAt h b cv) (cs : List Value) {n : Nat} (hi : cs.all isI = true) (hcl : cs.length = n) (hn : 0 < n) (hn2 : n ≤ 1000) :
    ∃ (v : Int) (h' : List Blk), (∃ i, i < n ∧ cs[i]? = some (.int .i64 v)) ∧ Aft h h' b cv ∧ AC Try.prog 142 [pt b 0, sl h.length 0 n 1] (h ++ [⟨cs, true⟩]) (.int .i64 v) h' := by
  have a0 := s.more [⟨cs, true⟩]
  obtain ⟨v, h', e, a1, c⟩ := pick_aft a0.src (bl := h.length) (n := n) (cs := cs) (r := true) (by simp) (by have := s.lt; omega) hn hn2 (ints_at hi (by omega))
  exact ⟨v, h', e, a0.trans a1, c⟩

/-- The fields among the first k numbers from 256 on. -/
def fl : Nat → List Int
  | 0 => []
  | k + 1 => if fieldB (256 + k) then fl k ++ [((256 + k : Nat) : Int)] else fl k
theorem fl_t {k : Nat} (h : fieldB (256 + k) = true) : fl (k + 1) = fl k ++ [((256 + k : Nat) : Int)] := by rw [fl, if_pos h]
theorem fl_f {k : Nat} (h : fieldB (256 + k) = false) : fl (k + 1) = fl k := by rw [fl, h]; rfl
theorem fl_le : ∀ k, (fl k).length ≤ k
  | 0 => Nat.le_refl 0
  | k + 1 => by have := fl_le k; unfold fl; split <;> simp <;> omega
/-- All fields. -/
def FL : List Int := fl 256
theorem FL_pos : 0 < FL.length := by decide +kernel
theorem FL_le : FL.length ≤ 256 := fl_le 256
theorem FL_eq : fl 256 = FL := rfl
attribute [irreducible] FL
theorem Il_snoc (l : List Int) (x : Int) : Il l ++ [.int .i64 x] = Il (l ++ [x]) := by unfold Il; rw [List.map_append]; rfl
theorem Il_isI (l : List Int) : (Il l).all isI = true := by
  unfold Il; rw [List.all_map, List.all_eq_true]; intro x _; rfl
theorem fieldsS_ac (h : List Blk) : AC Try.prog 148 [] h (sl h.length 0 FL.length 1) (h ++ [⟨Il FL, true⟩]) := by
  rw [← FL_eq]
  (refine AC_begin (fun _ _ => Try.call148 _ _) Try.func148 rfl Try.ntmps148 Try.results148 (fun hwf => ?_); simp only [List.length_cons, List.length_nil, Nat.reduceAdd, Nat.reduceSub, List.replicate, List.cons_append, List.nil_append])
  (repeat (first | ((first | (refine And.intro ?_ ?_; focus (first | exact plain_agg (by simp only [go_sem]) | exact plain_two (by first | exact plain_agg (by simp only [go_sem]) | rfl) rfl | rfl)) | refine WA_seq (WA_region ?_) | refine WA_region ?_ | refine WA_exit ?_); try simp (maxSteps := 1000000) (disch := first | omega | rfl | decide | (simp only [List.length_cons, List.length_nil, List.length_append, Bs_length, Is_length, Vs_length, Bl_length, Il_length] <;> omega)) only [go_sem, Nat.reduceAdd, Int.reduceAdd, Int.reduceSub, Int.reduceMul, Bool.not_true, Bool.not_false]) | refine WA_seq ?_ | refine WA_block ?_ | (refine WA_skip ?_; try simp only [go_sem]) | (refine WA_ret ?_; try simp only [go_sem]) | refine WA_ct rfl ?_ | refine WA_cf rfl ?_))
  refine WA_forP (fun k => [(1, sl h.length 0 (fl k).length 1), (2, .int .i64 ((256 + k : Nat) : Int)), (3, J), (4, J), (5, J), (6, J), (7, J), (8, J), (9, J), (10, J), (11, J), (12, J), (13, J)]) (fun k => [(0, ⟨Il (fl k), true⟩)]) (256) ?_ ?_ ?_ <;> (try simp only [patT_cons, patT_nil, patL_cons, patL_nil, list_set_zero, list_set_succ, blk_set_zero, blk_set_succ])
  · (refine Drop_slots (by first | exact Nat.le_refl _ | simp) ?_; focus ((try simp only [JL_same, JL_J, JL_nil, Int.reduceAdd, Nat.sub_sub, Int.natCast_add, Int.natCast_one, Int.natCast_zero, Int.cast_ofNat_Int, Nat.add_zero, Bool.false_eq_true, if_false, if_true, show (fl 0).length = 0 from rfl]); (try exact JL_refl _)))
  · intro k hk
    have hle := fl_le k
    cases hf : fieldB (256 + k)
    · (repeat (first | ((first | (refine And.intro ?_ ?_; focus (first | exact plain_agg (by simp only [go_sem]) | exact plain_two (by first | exact plain_agg (by simp only [go_sem]) | rfl) rfl | rfl)) | ((first | with_reducible apply callB_i | with_reducible apply callK_intro | with_reducible apply callQ_i); (focus (first | assumption | (with_reducible apply fieldS_ac <;> (first | assumption | rfl | (simp (disch := omega) only [go_sem]; first | done | rfl) | omega | decide | (simp; done))))); (try (focus (refine WP.mk ?_ ?_; (focus ((repeat (first | exact trivial | (refine And.intro ?_ ?_; (focus first | exact plainV_wf rfl | (refine plainV_wf (plain_agg ?_); simp only [go_sem]; done) | (simp only [wfV, wf1, wfC, List.length_append, List.length_cons, List.length_nil]; omega))))))); (focus (first | rfl | (refine plain_agg ?_; simp only [go_sem]; done) | (refine plain_two ?_ ?_ <;> first | rfl | (refine plain_agg ?_; simp only [go_sem]; done)))))))) | refine WA_seq (WA_region ?_) | refine WA_region ?_ | refine WA_exit ?_); try simp (maxSteps := 1000000) (disch := first | omega | rfl | decide | (simp only [List.length_cons, List.length_nil, List.length_append, Bs_length, Is_length, Vs_length, Bl_length, Il_length] <;> omega)) only [go_sem, Nat.reduceAdd, Int.reduceAdd, Int.reduceSub, Int.reduceMul, Bool.not_true, Bool.not_false, Int.toNat_natCast, hf]) | refine WA_seq ?_ | refine WA_block ?_ | (refine WA_skip ?_; try simp only [go_sem]) | (refine WA_ret ?_; try simp only [go_sem]) | refine WA_ct rfl ?_ | refine WA_cf rfl ?_))
      rw [fl_f hf]
      (refine Drop_slots (by first | exact Nat.le_refl _ | simp) ?_; focus ((try simp only [JL_same, JL_J, JL_nil, Int.reduceAdd, Nat.sub_sub, Int.natCast_add, Int.natCast_one, Int.natCast_zero, Int.cast_ofNat_Int, Nat.add_zero, Bool.false_eq_true, if_false, if_true, Nat.add_assoc]); (try exact JL_refl _)))
    · (repeat (first | ((first | (refine And.intro ?_ ?_; focus (first | exact plain_agg (by simp only [go_sem]) | exact plain_two (by first | exact plain_agg (by simp only [go_sem]) | rfl) rfl | rfl)) | ((first | with_reducible apply callB_i | with_reducible apply callK_intro | with_reducible apply callQ_i); (focus (first | assumption | (with_reducible apply fieldS_ac <;> (first | assumption | rfl | (simp (disch := omega) only [go_sem]; first | done | rfl) | omega | decide | (simp; done))))); (try (focus (refine WP.mk ?_ ?_; (focus ((repeat (first | exact trivial | (refine And.intro ?_ ?_; (focus first | exact plainV_wf rfl | (refine plainV_wf (plain_agg ?_); simp only [go_sem]; done) | (simp only [wfV, wf1, wfC, List.length_append, List.length_cons, List.length_nil]; omega))))))); (focus (first | rfl | (refine plain_agg ?_; simp only [go_sem]; done) | (refine plain_two ?_ ?_ <;> first | rfl | (refine plain_agg ?_; simp only [go_sem]; done)))))))) | refine WA_seq (WA_region ?_) | refine WA_region ?_ | refine WA_exit ?_); try simp (maxSteps := 1000000) (disch := first | omega | rfl | decide | (simp only [List.length_cons, List.length_nil, List.length_append, Bs_length, Is_length, Vs_length, Bl_length, Il_length] <;> omega)) only [go_sem, Nat.reduceAdd, Int.reduceAdd, Int.reduceSub, Int.reduceMul, Bool.not_true, Bool.not_false, Int.toNat_natCast, hf, lit1I, sub1, Il_snoc]) | refine WA_seq ?_ | refine WA_block ?_ | (refine WA_skip ?_; try simp only [go_sem]) | (refine WA_ret ?_; try simp only [go_sem]) | refine WA_ct rfl ?_ | refine WA_cf rfl ?_))
      rw [fl_t hf, List.length_append]
      (refine Drop_gc [2] (by first | exact Nat.le_refl _ | first | assumption | omega | (simp only [List.length_append, List.length_cons, List.length_nil, List.length_replicate]; omega)) (by assumption) (by decide) ?_ ?_; (focus (repeat (first | exact trivial | (refine And.intro ⟨_, rfl, ?_⟩ ?_; (focus first | (refine Fit_plain ?_; simp only [go_sem, List.all_append, List.all_cons, List.all_nil, Bool.and_self]; done) | exact Fit_nil rfl | exact Fit_dead | (refine Fit_eq ?_ ?_; (focus simp only [go_sem, List.all_append, List.all_cons, List.all_nil, Bool.and_self]); (focus (first | rfl | (simp only [Int.natCast_add, Int.natCast_one, Int.natCast_zero, Int.cast_ofNat_Int, Nat.add_zero, Nat.add_assoc]; done) | (simp only [Int.natCast_add, Int.natCast_one, Int.natCast_zero, Int.cast_ofNat_Int, Nat.add_zero, Nat.add_assoc]; rfl))))))))); (focus (repeat (first | exact JR_nil | refine JR_J ?_ | (refine JR_plain ?_ ?_; (focus first | rfl | (refine plain_agg ?_; simp only [go_sem, List.all_append, List.all_cons, List.all_nil, Bool.and_self]; done))) | ((first | refine JR_pt ?_ ?_ ?_ | refine JR_sl ?_ ?_ ?_); (focus first | (rw [rhoF_new0]; rfl) | (rw [rhoF_new]; rfl) | (rw [rhoF_old]; first | assumption | omega)); (focus first | assumption | omega | (simp only [List.length_append, List.length_cons, List.length_nil, List.length_replicate]; omega))) | (refine JR_plain' ?_ ?_ ?_; (focus first | rfl | (refine plain_agg ?_; simp only [go_sem, List.all_append, List.all_cons, List.all_nil, Bool.and_self]; done)); (focus (first | rfl | (simp only [Int.natCast_add, Int.natCast_one, Int.natCast_zero, Int.cast_ofNat_Int, Nat.add_zero, Nat.add_assoc]; done) | (simp only [Int.natCast_add, Int.natCast_one, Int.natCast_zero, Int.cast_ofNat_Int, Nat.add_zero, Nat.add_assoc]; rfl)))) | (refine JR_sl' ?_ ?_ ?_ ?_; (focus first | (rw [rhoF_new0]; rfl) | (rw [rhoF_new]; rfl) | (rw [rhoF_old]; first | assumption | omega)); (focus first | assumption | omega | (simp only [List.length_append, List.length_cons, List.length_nil, List.length_replicate]; omega)); (focus first | rfl | omega | (first | rfl | (simp only [Int.natCast_add, Int.natCast_one, Int.natCast_zero, Int.cast_ofNat_Int, Nat.add_zero, Nat.add_assoc]; done) | (simp only [Int.natCast_add, Int.natCast_one, Int.natCast_zero, Int.cast_ofNat_Int, Nat.add_zero, Nat.add_assoc]; rfl))))))))
  · (repeat (first | ((first | (refine And.intro ?_ ?_; focus (first | exact plain_agg (by simp only [go_sem]) | exact plain_two (by first | exact plain_agg (by simp only [go_sem]) | rfl) rfl | rfl)) | refine WA_seq (WA_region ?_) | refine WA_region ?_ | refine WA_exit ?_); try simp (maxSteps := 1000000) (disch := first | omega | rfl | decide | (simp only [List.length_cons, List.length_nil, List.length_append, Bs_length, Is_length, Vs_length, Bl_length, Il_length] <;> omega)) only [go_sem, Nat.reduceAdd, Int.reduceAdd, Int.reduceSub, Int.reduceMul, Bool.not_true, Bool.not_false]) | refine WA_seq ?_ | refine WA_block ?_ | (refine WA_skip ?_; try simp only [go_sem]) | (refine WA_ret ?_; try simp only [go_sem]) | refine WA_ct rfl ?_ | refine WA_cf rfl ?_))
    ((first | refine ret_none (by first | exact .inr rfl | exact .inl rfl) ?_ | refine ret_same (by first | exact .inr rfl | exact .inl rfl) ?_ (by first | rfl | exact plain_agg (by simp only [go_sem]) | exact plain_two (by first | exact plain_agg (by simp only [go_sem]) | rfl) (by first | exact plain_agg (by simp only [go_sem]) | rfl)) | refine ret_full (by first | exact .inr rfl | exact .inl rfl) (by simp) ?_); simp (maxSteps := 1000000) (disch := first | omega | rfl | decide | (simp only [List.length_cons, List.length_nil, List.length_append, Bs_length, Is_length, Vs_length, Bl_length, Il_length] <;> omega)) only [go_sem, Nat.reduceAdd, Int.reduceAdd, Int.reduceSub, Int.reduceMul, Bool.not_true, Bool.not_false]; try rfl)

theorem drawField_aft {h : List Blk} {b : Nat} {cv : Value} (s : SrcAt h b cv) :
    ∃ (v : Int) (h' : List Blk), Aft h h' b cv ∧ AC Try.prog 204 [pt b 0] h (.int .i64 v) h' := by
  have hbl := s.lt
  have hfp := FL_pos
  have hfl := FL_le
  have a0 := s.more [⟨Il FL, true⟩]
  obtain ⟨x1, h1, hx1, a1, c1⟩ := next_aft a0.src (N := FL.length) hfp (by omega)
  obtain ⟨x2, h2, hx2, a2, c2⟩ := next_aft a1.src (N := FL.length) hfp (by omega)
  have hF0 : (h ++ [(⟨Il FL, true⟩ : Blk)])[h.length]? = some ⟨Il FL, true⟩ := by simp
  have hF1 := a1.keep _ _ (by omega) hF0
  have hF2 := a2.keep _ _ (by omega) hF1
  obtain ⟨v1, hv1⟩ := ints_at (Il_isI FL) (Nat.le_of_eq (Il_length FL).symm) x1 hx1
  obtain ⟨v2, hv2⟩ := ints_at (Il_isI FL) (Nat.le_of_eq (Il_length FL).symm) x2 hx2
  obtain ⟨v, h3, _, a4, c3⟩ := pickL_aft a2.src [.int .i64 285, .int .i64 v1, .int .i64 v2] (n := 3) rfl rfl (by omega) (by omega)
  have hA := ((a0.trans a1).trans a2).trans a4
  have hlen := hA.len
  refine ⟨v, h3, hA, ?_⟩
  clear a0 a1 a2 a4
  (refine AC_begin (fun _ _ => Try.call204 _ _) Try.func204 rfl Try.ntmps204 Try.results204 (fun hwf => ?_); simp only [List.length_cons, List.length_nil, Nat.reduceAdd, Nat.reduceSub, List.replicate, List.cons_append, List.nil_append])
  (repeat (first | ((first | (refine And.intro ?_ ?_; focus (first | exact plain_agg (by simp only [go_sem]) | exact plain_two (by first | exact plain_agg (by simp only [go_sem]) | rfl) rfl | rfl)) | ((first | with_reducible apply callB_i | with_reducible apply callK_intro | with_reducible apply callQ_i); (focus (first | assumption | ((first | with_reducible apply fieldsS_ac | with_reducible apply c1 | with_reducible apply c2 | with_reducible apply c3) <;> (first | assumption | rfl | (simp (disch := omega) only [go_sem]; first | done | rfl) | omega | decide | (simp; done))))); (try (focus (refine WP.mk ?_ ?_; (focus ((repeat (first | exact trivial | (refine And.intro ?_ ?_; (focus first | exact plainV_wf rfl | (refine plainV_wf (plain_agg ?_); simp only [go_sem]; done) | (simp only [wfV, wf1, wfC, List.length_append, List.length_cons, List.length_nil]; omega))))))); (focus (first | rfl | (refine plain_agg ?_; simp only [go_sem]; done) | (refine plain_two ?_ ?_ <;> first | rfl | (refine plain_agg ?_; simp only [go_sem]; done)))))))) | refine WA_seq (WA_region ?_) | refine WA_region ?_ | refine WA_exit ?_); try simp (maxSteps := 1000000) (disch := first | omega | rfl | decide | (simp only [List.length_cons, List.length_nil, List.length_append, Bs_length, Is_length, Vs_length, Bl_length, Il_length] <;> omega)) only [go_sem, Nat.reduceAdd, Int.reduceAdd, Int.reduceSub, Int.reduceMul, Bool.not_true, Bool.not_false, hF1, hF2, hv1, hv2]) | (refine (WA_rb (id := 2) [5, 7, 12, 14, 15, 16] (SubM.refl _) mixedOk ?_); simp only [List.size_toArray, List.length_cons, List.length_nil]; (repeat' (first | ((first | (refine And.intro ?_ ?_; focus (first | exact plain_agg (by simp only [go_sem]) | exact plain_two (by first | exact plain_agg (by simp only [go_sem]) | rfl) rfl | rfl)) | ((first | with_reducible apply callB_i | with_reducible apply callK_intro | with_reducible apply callQ_i); (focus (first | assumption | ((first | with_reducible apply fieldsS_ac | with_reducible apply c1 | with_reducible apply c2 | with_reducible apply c3) <;> (first | assumption | rfl | (simp (disch := omega) only [go_sem]; first | done | rfl) | omega | decide | (simp; done))))); (try (focus (refine WP.mk ?_ ?_; (focus ((repeat (first | exact trivial | (refine And.intro ?_ ?_; (focus first | exact plainV_wf rfl | (refine plainV_wf (plain_agg ?_); simp only [go_sem]; done) | (simp only [wfV, wf1, wfC, List.length_append, List.length_cons, List.length_nil]; omega))))))); (focus (first | rfl | (refine plain_agg ?_; simp only [go_sem]; done) | (refine plain_two ?_ ?_ <;> first | rfl | (refine plain_agg ?_; simp only [go_sem]; done)))))))) | refine RB_take false [0, 1, 2, 3, 4, 8, 9, 10, 11] 9 (by rfl) (by kernel_rfl) (by decide) (by decide +kernel) ?_ | refine RB_exec 5 _ (by rfl) (by decide +kernel) (by decide +kernel) ?_ | refine RB_take false [6] 7 (by rfl) (by kernel_rfl) (by decide) (by decide +kernel) ?_ | refine RB_two 7 12 _ (by rfl) (by decide +kernel) (by decide +kernel) (by decide +kernel) ?_ ?_ | refine RB_exec 12 _ (by rfl) (by decide +kernel) (by decide +kernel) ?_ | refine RB_take false [13] 4 (by rfl) (by kernel_rfl) (by decide) (by decide +kernel) ?_ | refine RB_exec 14 _ (by rfl) (by decide +kernel) (by decide +kernel) ?_ | refine RB_exec 15 _ (by rfl) (by decide +kernel) (by decide +kernel) ?_ | refine RB_exec 16 _ (by rfl) (by decide +kernel) (by decide +kernel) ?_ | refine RB_take false [17] 0 (by rfl) (by kernel_rfl) (by decide) (by decide +kernel) ?_ | refine RB_done (by decide +kernel) ?_ | refine RB_take false [13] 5 (by rfl) (by kernel_rfl) (by decide) (by decide +kernel) ?_ | refine RB_two 7 14 _ (by rfl) (by decide +kernel) (by decide +kernel) (by decide +kernel) ?_ ?_ | refine RB_exec 7 _ (by rfl) (by decide +kernel) (by decide +kernel) ?_) <;> try simp (maxSteps := 1000000) (disch := first | omega | rfl | decide | (simp only [List.length_cons, List.length_nil, List.length_append, Bs_length, Is_length, Vs_length, Bl_length, Il_length] <;> omega)) only [go_sem, Nat.reduceAdd, Int.reduceAdd, Int.reduceSub, Int.reduceMul, Bool.not_true, Bool.not_false, hF1, hF2, hv1, hv2])))) | refine WA_seq ?_ | refine WA_block ?_ | (refine WA_skip ?_; try simp only [go_sem]) | (refine WA_ret ?_; try simp only [go_sem]) | refine WA_ct rfl ?_ | refine WA_cf rfl ?_))
  all_goals (repeat (first | ((first | (refine And.intro ?_ ?_; focus (first | exact plain_agg (by simp only [go_sem]) | exact plain_two (by first | exact plain_agg (by simp only [go_sem]) | rfl) rfl | rfl)) | refine WA_seq (WA_region ?_) | refine WA_region ?_ | refine WA_exit ?_); try simp (maxSteps := 1000000) (disch := first | omega | rfl | decide | (simp only [List.length_cons, List.length_nil, List.length_append, Bs_length, Is_length, Vs_length, Bl_length, Il_length] <;> omega)) only [go_sem, Nat.reduceAdd, Int.reduceAdd, Int.reduceSub, Int.reduceMul, Bool.not_true, Bool.not_false]) | refine WA_seq ?_ | refine WA_block ?_ | (refine WA_skip ?_; try simp only [go_sem]) | (refine WA_ret ?_; try simp only [go_sem]) | refine WA_ct rfl ?_ | refine WA_cf rfl ?_))
  all_goals (refine ret_full (by first | exact .inr rfl | exact .inl rfl) hlen ?_)
  all_goals simp (maxSteps := 1000000) (disch := first | omega | rfl | decide | (simp only [List.length_cons, List.length_nil, List.length_append, Bs_length, Is_length, Vs_length, Bl_length, Il_length] <;> omega)) only [go_sem, Nat.reduceAdd, Int.reduceAdd, Int.reduceSub, Int.reduceMul, Bool.not_true, Bool.not_false]
  all_goals try rfl

theorem spoil_aft {h : List Blk} {b : Nat} {cv : Value} (s : SrcAt h b cv) :
    ∃ (v : Int) (h' : List Blk), Aft h h' b cv ∧ AC Try.prog 146 [pt b 0] h (.int .i64 v) h' := by
  obtain ⟨x, h1, hx, a1, c1⟩ := next_aft s (N := 20) (by omega) (by omega)
  by_cases h0 : x = 0
  · subst h0
    obtain ⟨v, h2, _, a2, c2⟩ := pickL_aft a1.src [.int .i64 0, .int .i64 256, .int .i64 257, .int .i64 511, .int .i64 512, .int .i64 (-285), .int .i64 300, .int .i64 1099511627776] (n := 8) rfl rfl (by omega) (by omega)
    have hA := a1.trans a2
    refine ⟨v, h2, hA, ?_⟩
    have hlen := hA.len
    (refine AC_begin (fun _ _ => Try.call146 _ _) Try.func146 rfl Try.ntmps146 Try.results146 (fun hwf => ?_); simp only [List.length_cons, List.length_nil, Nat.reduceAdd, Nat.reduceSub, List.replicate, List.cons_append, List.nil_append])
    (repeat (first | ((first | (refine And.intro ?_ ?_; focus (first | exact plain_agg (by simp only [go_sem]) | exact plain_two (by first | exact plain_agg (by simp only [go_sem]) | rfl) rfl | rfl)) | ((first | with_reducible apply callB_i | with_reducible apply callK_intro | with_reducible apply callQ_i); (focus (first | assumption | ((first | with_reducible apply c1 | with_reducible apply c2) <;> (first | assumption | rfl | (simp (disch := omega) only [go_sem]; first | done | rfl) | omega | decide | (simp; done))))); (try (focus (refine WP.mk ?_ ?_; (focus ((repeat (first | exact trivial | (refine And.intro ?_ ?_; (focus first | exact plainV_wf rfl | (refine plainV_wf (plain_agg ?_); simp only [go_sem]; done) | (simp only [wfV, wf1, wfC, List.length_append, List.length_cons, List.length_nil]; omega))))))); (focus (first | rfl | (refine plain_agg ?_; simp only [go_sem]; done) | (refine plain_two ?_ ?_ <;> first | rfl | (refine plain_agg ?_; simp only [go_sem]; done)))))))) | refine WA_seq (WA_region ?_) | refine WA_region ?_ | refine WA_exit ?_); try simp (maxSteps := 1000000) (disch := first | omega | rfl | decide | (simp only [List.length_cons, List.length_nil, List.length_append, Bs_length, Is_length, Vs_length, Bl_length, Il_length] <;> omega)) only [go_sem, Nat.reduceAdd, Int.reduceAdd, Int.reduceSub, Int.reduceMul, Bool.not_true, Bool.not_false, beq_self_eq_true]) | refine WA_seq ?_ | refine WA_block ?_ | (refine WA_skip ?_; try simp only [go_sem]) | (refine WA_ret ?_; try simp only [go_sem]) | refine WA_ct rfl ?_ | refine WA_cf rfl ?_))
    refine ret_full (by first | exact .inr rfl | exact .inl rfl) hlen ?_
    simp (maxSteps := 1000000) (disch := first | omega | rfl | decide | (simp only [List.length_cons, List.length_nil, List.length_append, Bs_length, Is_length, Vs_length, Bl_length, Il_length] <;> omega)) only [go_sem, Nat.reduceAdd, Int.reduceAdd, Int.reduceSub, Int.reduceMul, Bool.not_true, Bool.not_false]
    try rfl
  · obtain ⟨y, h2, a2, c2⟩ := drawField_aft a1.src
    have hb : (x == 0) = false := by simpa using h0
    refine ⟨y, h2, a1.trans a2, ?_⟩
    have hlen := (a1.trans a2).len
    (refine AC_begin (fun _ _ => Try.call146 _ _) Try.func146 rfl Try.ntmps146 Try.results146 (fun hwf => ?_); simp only [List.length_cons, List.length_nil, Nat.reduceAdd, Nat.reduceSub, List.replicate, List.cons_append, List.nil_append])
    (repeat (first | ((first | (refine And.intro ?_ ?_; focus (first | exact plain_agg (by simp only [go_sem]) | exact plain_two (by first | exact plain_agg (by simp only [go_sem]) | rfl) rfl | rfl)) | ((first | with_reducible apply callB_i | with_reducible apply callK_intro | with_reducible apply callQ_i); (focus (first | assumption | ((first | with_reducible apply c1 | with_reducible apply c2) <;> (first | assumption | rfl | (simp (disch := omega) only [go_sem]; first | done | rfl) | omega | decide | (simp; done))))); (try (focus (refine WP.mk ?_ ?_; (focus ((repeat (first | exact trivial | (refine And.intro ?_ ?_; (focus first | exact plainV_wf rfl | (refine plainV_wf (plain_agg ?_); simp only [go_sem]; done) | (simp only [wfV, wf1, wfC, List.length_append, List.length_cons, List.length_nil]; omega))))))); (focus (first | rfl | (refine plain_agg ?_; simp only [go_sem]; done) | (refine plain_two ?_ ?_ <;> first | rfl | (refine plain_agg ?_; simp only [go_sem]; done)))))))) | refine WA_seq (WA_region ?_) | refine WA_region ?_ | refine WA_exit ?_); try simp (maxSteps := 1000000) (disch := first | omega | rfl | decide | (simp only [List.length_cons, List.length_nil, List.length_append, Bs_length, Is_length, Vs_length, Bl_length, Il_length] <;> omega)) only [go_sem, Nat.reduceAdd, Int.reduceAdd, Int.reduceSub, Int.reduceMul, Bool.not_true, Bool.not_false, hb]) | refine WA_seq ?_ | refine WA_block ?_ | (refine WA_skip ?_; try simp only [go_sem]) | (refine WA_ret ?_; try simp only [go_sem]) | refine WA_ct rfl ?_ | refine WA_cf rfl ?_))
    refine ret_full (by first | exact .inr rfl | exact .inl rfl) hlen ?_
    simp (maxSteps := 1000000) (disch := first | omega | rfl | decide | (simp only [List.length_cons, List.length_nil, List.length_append, Bs_length, Is_length, Vs_length, Bl_length, Il_length] <;> omega)) only [go_sem, Nat.reduceAdd, Int.reduceAdd, Int.reduceSub, Int.reduceMul, Bool.not_true, Bool.not_false]
    try rfl

theorem drawByte_aft {h : List Blk} {b : Nat} {cv : Value} (s : SrcAt h b cv) :
    ∃ (v : UInt8) (h' : List Blk), Aft h h' b cv ∧ AC Try.prog 164 [pt b 0] h (B v) h' := by
  obtain ⟨x1, h1, _, a1, c1⟩ := next_aft s (N := 4) (by omega) (by omega)
  obtain ⟨x2, h2, _, a2, c2⟩ := next_aft a1.src (N := 256) (by omega) (by omega)
  obtain ⟨x3, h3, _, a3, c3⟩ := next_aft a2.src (N := 256) (by omega) (by omega)
  obtain ⟨v, h4, _, a4, c4⟩ := pickL_aft a3.src [.int .i64 x1, .int .i64 x2, .int .i64 x3, .int .i64 255] (n := 4) rfl rfl (by omega) (by omega)
  have hA := ((a1.trans a2).trans a3).trans a4
  refine ⟨toB v, h4, hA, ?_⟩
  have hlen := hA.len
  (refine AC_begin (fun _ _ => Try.call164 _ _) Try.func164 rfl Try.ntmps164 Try.results164 (fun hwf => ?_); simp only [List.length_cons, List.length_nil, Nat.reduceAdd, Nat.reduceSub, List.replicate, List.cons_append, List.nil_append])
  (repeat (first | ((first | (refine And.intro ?_ ?_; focus (first | exact plain_agg (by simp only [go_sem]) | exact plain_two (by first | exact plain_agg (by simp only [go_sem]) | rfl) rfl | rfl)) | ((first | with_reducible apply callB_i | with_reducible apply callK_intro | with_reducible apply callQ_i); (focus (first | assumption | ((first | with_reducible apply c1 | with_reducible apply c2 | with_reducible apply c3 | with_reducible apply c4) <;> (first | assumption | rfl | (simp (disch := omega) only [go_sem]; first | done | rfl) | omega | decide | (simp; done))))); (try (focus (refine WP.mk ?_ ?_; (focus ((repeat (first | exact trivial | (refine And.intro ?_ ?_; (focus first | exact plainV_wf rfl | (refine plainV_wf (plain_agg ?_); simp only [go_sem]; done) | (simp only [wfV, wf1, wfC, List.length_append, List.length_cons, List.length_nil]; omega))))))); (focus (first | rfl | (refine plain_agg ?_; simp only [go_sem]; done) | (refine plain_two ?_ ?_ <;> first | rfl | (refine plain_agg ?_; simp only [go_sem]; done)))))))) | refine WA_seq (WA_region ?_) | refine WA_region ?_ | refine WA_exit ?_); try simp (maxSteps := 1000000) (disch := first | omega | rfl | decide | (simp only [List.length_cons, List.length_nil, List.length_append, Bs_length, Is_length, Vs_length, Bl_length, Il_length] <;> omega)) only [go_sem, Nat.reduceAdd, Int.reduceAdd, Int.reduceSub, Int.reduceMul, Bool.not_true, Bool.not_false]) | refine WA_seq ?_ | refine WA_block ?_ | (refine WA_skip ?_; try simp only [go_sem]) | (refine WA_ret ?_; try simp only [go_sem]) | refine WA_ct rfl ?_ | refine WA_cf rfl ?_))
  refine ret_full (by first | exact .inr rfl | exact .inl rfl) hlen ?_
  simp (maxSteps := 1000000) (disch := first | omega | rfl | decide | (simp only [List.length_cons, List.length_nil, List.length_append, Bs_length, Is_length, Vs_length, Bl_length, Il_length] <;> omega)) only [go_sem, Nat.reduceAdd, Int.reduceAdd, Int.reduceSub, Int.reduceMul, Bool.not_true, Bool.not_false]
  try rfl

/-- A code, as an argument. -/
inductive Cv (h : List Blk) : Value → Prop
  | nil : Cv h (.slice none 0 0)
  | sl {bc n : Nat} {f : Nat → UInt8} {rc : Bool} (hb : h[bc]? = some ⟨Bs n f, rc⟩) (hn : n ≤ 4096) : Cv h (sl bc 0 n 1)
theorem Cv.app {h : List Blk} {cv : Value} (c : Cv h cv) (L : List Blk) : Cv (h ++ L) cv := by
  cases c with
  | nil => exact .nil
  | sl hb hn => exact .sl (look_old hb L) hn
/-- The state of a source after k bytes. -/
def frH (s0 : Int) (f : Nat → UInt8) : Nat → Int
  | 0 => s0
  | k + 1 => IntKind.u64.wrap (IntKind.u64.wrap (IntKind.u64.wrap (frH s0 f k * 1099511628211) + ((f k).toNat : Int)) + 11)
theorem from_aft {h : List Blk} {cv : Value} (c : Cv h cv) : ∃ h', SrcAt h' h.length cv ∧ (∃ L, h' = h ++ L) ∧ AC Try.prog 141 [cv] h (pt h.length 0) h' := by
  cases c with
  | nil =>
    refine ⟨h ++ [⟨Sr (.slice none 0 0) ((0 : Nat) : Int) 9001, true⟩], ⟨⟨Sr (.slice none 0 0) ((0 : Nat) : Int) 9001, true⟩, by simp, 0, 9001, 0, fun _ => 0, rfl, Nat.le_refl _, by omega, .nil _⟩, ⟨_, rfl⟩, ?_⟩
    (refine AC_begin (fun _ _ => Try.call141 _ _) Try.func141 rfl Try.ntmps141 Try.results141 (fun hwf => ?_); simp only [List.length_cons, List.length_nil, Nat.reduceAdd, Nat.reduceSub, List.replicate, List.cons_append, List.nil_append])
    (repeat (first | ((first | (refine And.intro ?_ ?_; focus (first | exact plain_agg (by simp only [go_sem]) | exact plain_two (by first | exact plain_agg (by simp only [go_sem]) | rfl) rfl | rfl)) | refine WA_seq (WA_region ?_) | refine WA_region ?_ | refine WA_exit ?_); try simp (maxSteps := 1000000) (disch := first | omega | rfl | decide | (simp only [List.length_cons, List.length_nil, List.length_append, Bs_length, Is_length, Vs_length, Bl_length, Il_length] <;> omega)) only [go_sem, Nat.reduceAdd, Int.reduceAdd, Int.reduceSub, Int.reduceMul, Bool.not_true, Bool.not_false, yieldA_at 4 16]) | (refine (WA_rb (id := 5) [15] (SubM.refl _) mixedOk ?_); simp only [List.size_toArray, List.length_cons, List.length_nil]; (repeat (first | ((first | (refine And.intro ?_ ?_; focus (first | exact plain_agg (by simp only [go_sem]) | exact plain_two (by first | exact plain_agg (by simp only [go_sem]) | rfl) rfl | rfl)) | refine RB_take false [0, 1, 2, 3, 6, 7, 8] 9 (by rfl) (by kernel_rfl) (by decide) (by decide +kernel) ?_ | refine RB_take true [4, 9] 7 (by rfl) (by kernel_rfl) (by decide) (by decide +kernel) ?_ | refine RB_take false [5, 10, 11, 12, 13, 14] 1 (by rfl) (by kernel_rfl) (by decide) (by decide +kernel) ?_ | refine RB_exec 15 _ (by rfl) (by decide +kernel) (by decide +kernel) ?_ | refine RB_done (by decide +kernel) ?_); try simp (maxSteps := 1000000) (disch := first | omega | rfl | decide | (simp only [List.length_cons, List.length_nil, List.length_append, Bs_length, Is_length, Vs_length, Bl_length, Il_length] <;> omega)) only [go_sem, Nat.reduceAdd, Int.reduceAdd, Int.reduceSub, Int.reduceMul, Bool.not_true, Bool.not_false, yieldA_at 4 16])))) | refine WA_seq ?_ | refine WA_block ?_ | (refine WA_skip ?_; try simp only [go_sem]) | (refine WA_ret ?_; try simp only [go_sem]) | refine WA_ct rfl ?_ | refine WA_cf rfl ?_))
    refine WA_forP (fun k => [(4, .int .i64 k), (12, J), (13, J), (14, J), (15, J), (16, J), (17, J), (18, J), (19, J), (20, J), (21, J), (22, J), (23, J), (24, J), (25, J), (26, J), (27, J), (28, J), (29, J), (30, J), (31, J), (32, J), (33, J), (34, J), (35, J), (36, J)]) (fun k => []) (0) ?_ ?_ ?_ <;> (try simp only [patT_cons, patT_nil, patL_cons, patL_nil, list_set_zero, list_set_succ, blk_set_zero, blk_set_succ])
    · (refine Drop_slots (by first | exact Nat.le_refl _ | simp) ?_; focus ((try simp only [JL_same, JL_J, JL_nil, Int.reduceAdd, Nat.sub_sub, Int.natCast_add, Int.natCast_one, Int.natCast_zero, Int.cast_ofNat_Int, Nat.add_zero, Bool.false_eq_true, if_false, if_true]); (try exact JL_refl _)))
    · intro k hk
      omega
    · (repeat (first | ((first | (refine And.intro ?_ ?_; focus (first | exact plain_agg (by simp only [go_sem]) | exact plain_two (by first | exact plain_agg (by simp only [go_sem]) | rfl) rfl | rfl)) | refine WA_seq (WA_region ?_) | refine WA_region ?_ | refine WA_exit ?_); try simp (maxSteps := 1000000) (disch := first | omega | rfl | decide | (simp only [List.length_cons, List.length_nil, List.length_append, Bs_length, Is_length, Vs_length, Bl_length, Il_length] <;> omega)) only [go_sem, Nat.reduceAdd, Int.reduceAdd, Int.reduceSub, Int.reduceMul, Bool.not_true, Bool.not_false, show decide ((0 : Nat) < 0) = false from rfl, show decide ((0 : Int) < 0) = false from rfl, yieldA_at 4 16]) | refine WA_seq ?_ | refine WA_block ?_ | (refine WA_skip ?_; try simp only [go_sem]) | (refine WA_ret ?_; try simp only [go_sem]) | refine WA_ct rfl ?_ | refine WA_cf rfl ?_))
      ((first | refine ret_none (by first | exact .inr rfl | exact .inl rfl) ?_ | refine ret_same (by first | exact .inr rfl | exact .inl rfl) ?_ (by first | rfl | exact plain_agg (by simp only [go_sem]) | exact plain_two (by first | exact plain_agg (by simp only [go_sem]) | rfl) (by first | exact plain_agg (by simp only [go_sem]) | rfl)) | refine ret_full (by first | exact .inr rfl | exact .inl rfl) (by simp) ?_); simp (maxSteps := 1000000) (disch := first | omega | rfl | decide | (simp only [List.length_cons, List.length_nil, List.length_append, Bs_length, Is_length, Vs_length, Bl_length, Il_length] <;> omega)) only [go_sem, Nat.reduceAdd, Int.reduceAdd, Int.reduceSub, Int.reduceMul, Bool.not_true, Bool.not_false]; try rfl)
  | @sl bc n f rc hb hn =>
    have hbl := blt hb
    refine ⟨h ++ [⟨Sr (sl bc 0 n 1) ((0 : Nat) : Int) (frH ((9001 + n : Nat) : Int) f n), true⟩], ⟨⟨Sr (sl bc 0 n 1) ((0 : Nat) : Int) (frH ((9001 + n : Nat) : Int) f n), true⟩, by simp, 0, _, n, f, rfl, Nat.zero_le _, hn, .sl f (look_old hb _) (by omega)⟩, ⟨_, rfl⟩, ?_⟩
    (refine AC_begin (fun _ _ => Try.call141 _ _) Try.func141 rfl Try.ntmps141 Try.results141 (fun hwf => ?_); simp only [List.length_cons, List.length_nil, Nat.reduceAdd, Nat.reduceSub, List.replicate, List.cons_append, List.nil_append])
    (repeat (first | ((first | (refine And.intro ?_ ?_; focus (first | exact plain_agg (by simp only [go_sem]) | exact plain_two (by first | exact plain_agg (by simp only [go_sem]) | rfl) rfl | rfl)) | refine WA_seq (WA_region ?_) | refine WA_region ?_ | refine WA_exit ?_); try simp (maxSteps := 1000000) (disch := first | omega | rfl | decide | (simp only [List.length_cons, List.length_nil, List.length_append, Bs_length, Is_length, Vs_length, Bl_length, Il_length] <;> omega)) only [go_sem, Nat.reduceAdd, Int.reduceAdd, Int.reduceSub, Int.reduceMul, Bool.not_true, Bool.not_false, yieldA_at 4 16]) | (refine (WA_rb (id := 5) [15] (SubM.refl _) mixedOk ?_); simp only [List.size_toArray, List.length_cons, List.length_nil]; (repeat (first | ((first | (refine And.intro ?_ ?_; focus (first | exact plain_agg (by simp only [go_sem]) | exact plain_two (by first | exact plain_agg (by simp only [go_sem]) | rfl) rfl | rfl)) | refine RB_take false [0, 1, 2, 3, 6, 7, 8] 9 (by rfl) (by kernel_rfl) (by decide) (by decide +kernel) ?_ | refine RB_take true [4, 9] 7 (by rfl) (by kernel_rfl) (by decide) (by decide +kernel) ?_ | refine RB_take false [5, 10, 11, 12, 13, 14] 1 (by rfl) (by kernel_rfl) (by decide) (by decide +kernel) ?_ | refine RB_exec 15 _ (by rfl) (by decide +kernel) (by decide +kernel) ?_ | refine RB_done (by decide +kernel) ?_); try simp (maxSteps := 1000000) (disch := first | omega | rfl | decide | (simp only [List.length_cons, List.length_nil, List.length_append, Bs_length, Is_length, Vs_length, Bl_length, Il_length] <;> omega)) only [go_sem, Nat.reduceAdd, Int.reduceAdd, Int.reduceSub, Int.reduceMul, Bool.not_true, Bool.not_false, yieldA_at 4 16])))) | refine WA_seq ?_ | refine WA_block ?_ | (refine WA_skip ?_; try simp only [go_sem]) | (refine WA_ret ?_; try simp only [go_sem]) | refine WA_ct rfl ?_ | refine WA_cf rfl ?_))
    refine WA_forP (fun k => [(4, .int .i64 k), (12, J), (13, J), (14, J), (15, J), (16, J), (17, J), (18, J), (19, J), (20, J), (21, J), (22, J), (23, J), (24, J), (25, J), (26, J), (27, J), (28, J), (29, J), (30, J), (31, J), (32, J), (33, J), (34, J), (35, J), (36, J)]) (fun k => [(0, ⟨Sr (sl bc 0 n 1) ((0 : Nat) : Int) (frH ((9001 + n : Nat) : Int) f k), true⟩)]) (n) ?_ ?_ ?_ <;> (try simp only [patT_cons, patT_nil, patL_cons, patL_nil, list_set_zero, list_set_succ, blk_set_zero, blk_set_succ])
    · (refine Drop_slots (by first | exact Nat.le_refl _ | simp) ?_; focus ((try simp only [JL_same, JL_J, JL_nil, Int.reduceAdd, Nat.sub_sub, Int.natCast_add, Int.natCast_one, Int.natCast_zero, Int.cast_ofNat_Int, Nat.add_zero, Bool.false_eq_true, if_false, if_true]); (try exact JL_refl _)))
    · intro k hk
      have hx := u8_lt (f k)
      (repeat (first | ((first | (refine And.intro ?_ ?_; focus (first | exact plain_agg (by simp only [go_sem]) | exact plain_two (by first | exact plain_agg (by simp only [go_sem]) | rfl) rfl | rfl)) | refine WA_seq (WA_region ?_) | refine WA_region ?_ | refine WA_exit ?_); try simp (maxSteps := 1000000) (disch := first | omega | rfl | decide | (simp only [List.length_cons, List.length_nil, List.length_append, Bs_length, Is_length, Vs_length, Bl_length, Il_length] <;> omega)) only [go_sem, Nat.reduceAdd, Int.reduceAdd, Int.reduceSub, Int.reduceMul, Bool.not_true, Bool.not_false, look_old hb, decide_eq_true hk, show decide (k < 4096) = true from decide_eq_true (by omega), show IntKind.u64.wrap (IntKind.u64.wrap (IntKind.u64.wrap (frH ((9001 + n : Nat) : Int) f k * 1099511628211) + ((f k).toNat : Int)) + 11) = frH ((9001 + n : Nat) : Int) f (k + 1) from rfl, yieldA_at 4 16]) | (refine (WA_rb (id := 5) [15] (SubM.refl _) mixedOk ?_); simp only [List.size_toArray, List.length_cons, List.length_nil]; (repeat (first | ((first | (refine And.intro ?_ ?_; focus (first | exact plain_agg (by simp only [go_sem]) | exact plain_two (by first | exact plain_agg (by simp only [go_sem]) | rfl) rfl | rfl)) | refine RB_take false [0, 1, 2, 3, 6, 7, 8] 9 (by rfl) (by kernel_rfl) (by decide) (by decide +kernel) ?_ | refine RB_take true [4, 9] 7 (by rfl) (by kernel_rfl) (by decide) (by decide +kernel) ?_ | refine RB_take false [5, 10, 11, 12, 13, 14] 1 (by rfl) (by kernel_rfl) (by decide) (by decide +kernel) ?_ | refine RB_exec 15 _ (by rfl) (by decide +kernel) (by decide +kernel) ?_ | refine RB_done (by decide +kernel) ?_); try simp (maxSteps := 1000000) (disch := first | omega | rfl | decide | (simp only [List.length_cons, List.length_nil, List.length_append, Bs_length, Is_length, Vs_length, Bl_length, Il_length] <;> omega)) only [go_sem, Nat.reduceAdd, Int.reduceAdd, Int.reduceSub, Int.reduceMul, Bool.not_true, Bool.not_false, look_old hb, decide_eq_true hk, show decide (k < 4096) = true from decide_eq_true (by omega), show IntKind.u64.wrap (IntKind.u64.wrap (IntKind.u64.wrap (frH ((9001 + n : Nat) : Int) f k * 1099511628211) + ((f k).toNat : Int)) + 11) = frH ((9001 + n : Nat) : Int) f (k + 1) from rfl, yieldA_at 4 16])))) | refine WA_seq ?_ | refine WA_block ?_ | (refine WA_skip ?_; try simp only [go_sem]) | (refine WA_ret ?_; try simp only [go_sem]) | refine WA_ct rfl ?_ | refine WA_cf rfl ?_))
      (refine Drop_slots (by first | exact Nat.le_refl _ | simp) ?_; focus ((try simp only [JL_same, JL_J, JL_nil, Int.reduceAdd, Nat.sub_sub, Int.natCast_add, Int.natCast_one, Int.natCast_zero, Int.cast_ofNat_Int, Nat.add_zero, Bool.false_eq_true, if_false, if_true]); (try exact JL_refl _)))
    · (repeat (first | ((first | (refine And.intro ?_ ?_; focus (first | exact plain_agg (by simp only [go_sem]) | exact plain_two (by first | exact plain_agg (by simp only [go_sem]) | rfl) rfl | rfl)) | refine WA_seq (WA_region ?_) | refine WA_region ?_ | refine WA_exit ?_); try simp (maxSteps := 1000000) (disch := first | omega | rfl | decide | (simp only [List.length_cons, List.length_nil, List.length_append, Bs_length, Is_length, Vs_length, Bl_length, Il_length] <;> omega)) only [go_sem, Nat.reduceAdd, Int.reduceAdd, Int.reduceSub, Int.reduceMul, Bool.not_true, Bool.not_false, show decide (n < n) = false from decide_eq_false (Nat.lt_irrefl n), yieldA_at 4 16]) | refine WA_seq ?_ | refine WA_block ?_ | (refine WA_skip ?_; try simp only [go_sem]) | (refine WA_ret ?_; try simp only [go_sem]) | refine WA_ct rfl ?_ | refine WA_cf rfl ?_))
      ((first | refine ret_none (by first | exact .inr rfl | exact .inl rfl) ?_ | refine ret_same (by first | exact .inr rfl | exact .inl rfl) ?_ (by first | rfl | exact plain_agg (by simp only [go_sem]) | exact plain_two (by first | exact plain_agg (by simp only [go_sem]) | rfl) (by first | exact plain_agg (by simp only [go_sem]) | rfl)) | refine ret_full (by first | exact .inr rfl | exact .inl rfl) (by simp) ?_); simp (maxSteps := 1000000) (disch := first | omega | rfl | decide | (simp only [List.length_cons, List.length_nil, List.length_append, Bs_length, Is_length, Vs_length, Bl_length, Il_length] <;> omega)) only [go_sem, Nat.reduceAdd, Int.reduceAdd, Int.reduceSub, Int.reduceMul, Bool.not_true, Bool.not_false]; try rfl)

end Go.Proofs.Ytkgiocoiojdgfaa
/- Functions of fields: both sides. -/
namespace Go.Proofs.Ytkgiocoiojdgfaa
set_option linter.unusedSimpArgs false
set_option linter.unusedVariables false
set_option maxRecDepth 20000
set_option maxHeartbeats 1000000
open Go.Abs

def fcN (m : Int) : Int := cond (fieldB m.toNat) 0 1
theorem fcN_ok (m : Int) : (fcN m == 0) = fieldB m.toNat := by unfold fcN; cases fieldB m.toNat <;> rfl
def tmI (m : Int) (a b : UInt8) : UInt8 := cond (fieldB m.toNat) (tm m.toNat a b) 0
theorem timI_ac (m : Int) (a b : UInt8) (h : List Blk) : AC Try.prog 20 [.int .i64 m, B a, B b] h (.tuple #[B (tmI m a b), .int .i64 (fcN m)]) h := by
  cases hf : fieldB m.toNat
  · (refine AC_begin (fun _ _ => Try.call20 _ _) Try.func20 rfl Try.ntmps20 Try.results20 (fun hwf => ?_); simp only [List.length_cons, List.length_nil, Nat.reduceAdd, Nat.reduceSub, List.replicate, List.cons_append, List.nil_append])
    (repeat (first | ((first | (refine And.intro ?_ ?_; focus (first | exact plain_agg (by simp only [go_sem]) | exact plain_two (by first | exact plain_agg (by simp only [go_sem]) | rfl) rfl | rfl)) | ((first | with_reducible apply callB_i | with_reducible apply callK_intro | with_reducible apply callQ_i); (focus (first | assumption | (with_reducible apply isField_ac <;> (first | assumption | rfl | (simp (disch := omega) only [go_sem]; first | done | rfl) | omega | decide | (simp; done))))); (try (focus (refine WP.mk ?_ ?_; (focus ((repeat (first | exact trivial | (refine And.intro ?_ ?_; (focus first | exact plainV_wf rfl | (refine plainV_wf (plain_agg ?_); simp only [go_sem]; done) | (simp only [wfV, wf1, wfC, List.length_append, List.length_cons, List.length_nil]; omega))))))); (focus (first | rfl | (refine plain_agg ?_; simp only [go_sem]; done) | (refine plain_two ?_ ?_ <;> first | rfl | (refine plain_agg ?_; simp only [go_sem]; done)))))))) | refine WA_seq (WA_region ?_) | refine WA_region ?_ | refine WA_exit ?_); try simp (maxSteps := 1000000) (disch := first | omega | rfl | decide | (simp only [List.length_cons, List.length_nil, List.length_append, Bs_length, Is_length, Vs_length, Bl_length, Il_length] <;> omega)) only [go_sem, Nat.reduceAdd, Int.reduceAdd, Int.reduceSub, Int.reduceMul, Bool.not_true, Bool.not_false, hf, Bool.not_false]) | refine WA_seq ?_ | refine WA_block ?_ | (refine WA_skip ?_; try simp only [go_sem]) | (refine WA_ret ?_; try simp only [go_sem]) | refine WA_ct rfl ?_ | refine WA_cf rfl ?_))
    ((first | refine ret_none (by first | exact .inr rfl | exact .inl rfl) ?_ | refine ret_same (by first | exact .inr rfl | exact .inl rfl) ?_ (by first | rfl | exact plain_agg (by simp only [go_sem]) | exact plain_two (by first | exact plain_agg (by simp only [go_sem]) | rfl) (by first | exact plain_agg (by simp only [go_sem]) | rfl)) | refine ret_full (by first | exact .inr rfl | exact .inl rfl) (by simp) ?_); simp (maxSteps := 1000000) (disch := first | omega | rfl | decide | (simp only [List.length_cons, List.length_nil, List.length_append, Bs_length, Is_length, Vs_length, Bl_length, Il_length] <;> omega)) only [go_sem, Nat.reduceAdd, Int.reduceAdd, Int.reduceSub, Int.reduceMul, Bool.not_true, Bool.not_false, tmI, fcN, hf, cond_false]; try rfl)
  · obtain ⟨n, rfl, hn, h0, h1⟩ := fieldB_nat hf
    (refine AC_begin (fun _ _ => Try.call20 _ _) Try.func20 rfl Try.ntmps20 Try.results20 (fun hwf => ?_); simp only [List.length_cons, List.length_nil, Nat.reduceAdd, Nat.reduceSub, List.replicate, List.cons_append, List.nil_append])
    (repeat (first | ((first | (refine And.intro ?_ ?_; focus (first | exact plain_agg (by simp only [go_sem]) | exact plain_two (by first | exact plain_agg (by simp only [go_sem]) | rfl) rfl | rfl)) | ((first | with_reducible apply callB_i | with_reducible apply callK_intro | with_reducible apply callQ_i); (focus (first | assumption | ((first | with_reducible apply isField_ac | with_reducible apply tmI_ac h0 h1) <;> (first | assumption | rfl | (simp (disch := omega) only [go_sem]; first | done | rfl) | omega | decide | (simp; done))))); (try (focus (refine WP.mk ?_ ?_; (focus ((repeat (first | exact trivial | (refine And.intro ?_ ?_; (focus first | exact plainV_wf rfl | (refine plainV_wf (plain_agg ?_); simp only [go_sem]; done) | (simp only [wfV, wf1, wfC, List.length_append, List.length_cons, List.length_nil]; omega))))))); (focus (first | rfl | (refine plain_agg ?_; simp only [go_sem]; done) | (refine plain_two ?_ ?_ <;> first | rfl | (refine plain_agg ?_; simp only [go_sem]; done)))))))) | refine WA_seq (WA_region ?_) | refine WA_region ?_ | refine WA_exit ?_); try simp (maxSteps := 1000000) (disch := first | omega | rfl | decide | (simp only [List.length_cons, List.length_nil, List.length_append, Bs_length, Is_length, Vs_length, Bl_length, Il_length] <;> omega)) only [go_sem, Nat.reduceAdd, Int.reduceAdd, Int.reduceSub, Int.reduceMul, Bool.not_true, Bool.not_false, hn, Bool.not_true]) | refine WA_seq ?_ | refine WA_block ?_ | (refine WA_skip ?_; try simp only [go_sem]) | (refine WA_ret ?_; try simp only [go_sem]) | refine WA_ct rfl ?_ | refine WA_cf rfl ?_))
    ((first | refine ret_none (by first | exact .inr rfl | exact .inl rfl) ?_ | refine ret_same (by first | exact .inr rfl | exact .inl rfl) ?_ (by first | rfl | exact plain_agg (by simp only [go_sem]) | exact plain_two (by first | exact plain_agg (by simp only [go_sem]) | rfl) (by first | exact plain_agg (by simp only [go_sem]) | rfl)) | refine ret_full (by first | exact .inr rfl | exact .inl rfl) (by simp) ?_); simp (maxSteps := 1000000) (disch := first | omega | rfl | decide | (simp only [List.length_cons, List.length_nil, List.length_append, Bs_length, Is_length, Vs_length, Bl_length, Il_length] <;> omega)) only [go_sem, Nat.reduceAdd, Int.reduceAdd, Int.reduceSub, Int.reduceMul, Bool.not_true, Bool.not_false, tmI, fcN, hn, cond_true, Int.toNat_natCast]; try rfl)

theorem likeInts_ac {h : List Blk} {b b' : Nat} {l : List Int} {r r' : Bool} (hb : h[b]? = some ⟨Il l, r⟩) (hb' : h[b']? = some ⟨Il l, r'⟩) (hn : l.length ≤ 1048576) : AC Try.prog 37 [sl b 0 l.length 1, sl b' 0 l.length 1] h (.bool true) h := by
  have hbl := blt hb
  have hbl' := blt hb'
  (refine AC_begin (fun _ _ => Try.call37 _ _) Try.func37 rfl Try.ntmps37 Try.results37 (fun hwf => ?_); simp only [List.length_cons, List.length_nil, Nat.reduceAdd, Nat.reduceSub, List.replicate, List.cons_append, List.nil_append])
  (repeat (first | ((first | (refine And.intro ?_ ?_; focus (first | exact plain_agg (by simp only [go_sem]) | exact plain_two (by first | exact plain_agg (by simp only [go_sem]) | rfl) rfl | rfl)) | refine WA_seq (WA_region ?_) | refine WA_region ?_ | refine WA_exit ?_); try simp (maxSteps := 1000000) (disch := first | omega | rfl | decide | (simp only [List.length_cons, List.length_nil, List.length_append, Bs_length, Is_length, Vs_length, Bl_length, Il_length] <;> omega)) only [go_sem, Nat.reduceAdd, Int.reduceAdd, Int.reduceSub, Int.reduceMul, Bool.not_true, Bool.not_false, bne_self_eq_false]) | refine WA_seq ?_ | refine WA_block ?_ | (refine WA_skip ?_; try simp only [go_sem]) | (refine WA_ret ?_; try simp only [go_sem]) | refine WA_ct rfl ?_ | refine WA_cf rfl ?_))
  refine WA_forH (fun k => [(4, J), (5, .int .i64 k), (11, J), (12, J), (13, J), (14, J), (15, J), (16, J), (17, J), (18, J), (19, J), (20, J), (21, J), (22, J), (23, J), (24, J), (25, J)]) (fun k => h) (l.length) ?_ ?_ ?_ <;> (try simp only [patT_cons, patT_nil, patL_cons, patL_nil, list_set_zero, list_set_succ, blk_set_zero, blk_set_succ])
  · (refine Drop_slots (by first | exact Nat.le_refl _ | simp) ?_; focus ((try simp only [JL_same, JL_J, JL_nil, Int.reduceAdd, Nat.sub_sub, Int.natCast_add, Int.natCast_one, Int.natCast_zero, Int.cast_ofNat_Int, Nat.add_zero, Bool.false_eq_true, if_false, if_true]); (try exact JL_refl _)))
  · intro k hk
    (repeat (first | ((first | (refine And.intro ?_ ?_; focus (first | exact plain_agg (by simp only [go_sem]) | exact plain_two (by first | exact plain_agg (by simp only [go_sem]) | rfl) rfl | rfl)) | refine WA_seq (WA_region ?_) | refine WA_region ?_ | refine WA_exit ?_); try simp (maxSteps := 1000000) (disch := first | omega | rfl | decide | (simp only [List.length_cons, List.length_nil, List.length_append, Bs_length, Is_length, Vs_length, Bl_length, Il_length] <;> omega)) only [go_sem, Nat.reduceAdd, Int.reduceAdd, Int.reduceSub, Int.reduceMul, Bool.not_true, Bool.not_false, hb, hb', bne_self_eq_false]) | (refine WA_seq (WA_draw (id := 6) mixedOk (by kernel_rfl) ?_); simp (maxSteps := 1000000) (disch := first | omega | rfl | decide | (simp only [List.length_cons, List.length_nil, List.length_append, Bs_length, Is_length, Vs_length, Bl_length, Il_length] <;> omega)) only [go_sem, Nat.reduceAdd, Int.reduceAdd, Int.reduceSub, Int.reduceMul, Bool.not_true, Bool.not_false, hb, hb', bne_self_eq_false]) | (refine WA_draw (id := 6) mixedOk (by kernel_rfl) ?_; simp (maxSteps := 1000000) (disch := first | omega | rfl | decide | (simp only [List.length_cons, List.length_nil, List.length_append, Bs_length, Is_length, Vs_length, Bl_length, Il_length] <;> omega)) only [go_sem, Nat.reduceAdd, Int.reduceAdd, Int.reduceSub, Int.reduceMul, Bool.not_true, Bool.not_false, hb, hb', bne_self_eq_false]) | refine WA_seq ?_ | refine WA_block ?_ | (refine WA_skip ?_; try simp only [go_sem]) | (refine WA_ret ?_; try simp only [go_sem]) | refine WA_ct rfl ?_ | refine WA_cf rfl ?_))
    (refine Drop_slots (by first | exact Nat.le_refl _ | simp) ?_; focus ((try simp only [JL_same, JL_J, JL_nil, Int.reduceAdd, Nat.sub_sub, Int.natCast_add, Int.natCast_one, Int.natCast_zero, Int.cast_ofNat_Int, Nat.add_zero, Bool.false_eq_true, if_false, if_true]); (try exact JL_refl _)))
  · (repeat (first | ((first | (refine And.intro ?_ ?_; focus (first | exact plain_agg (by simp only [go_sem]) | exact plain_two (by first | exact plain_agg (by simp only [go_sem]) | rfl) rfl | rfl)) | refine WA_seq (WA_region ?_) | refine WA_region ?_ | refine WA_exit ?_); try simp (maxSteps := 1000000) (disch := first | omega | rfl | decide | (simp only [List.length_cons, List.length_nil, List.length_append, Bs_length, Is_length, Vs_length, Bl_length, Il_length] <;> omega)) only [go_sem, Nat.reduceAdd, Int.reduceAdd, Int.reduceSub, Int.reduceMul, Bool.not_true, Bool.not_false]) | refine WA_seq ?_ | refine WA_block ?_ | (refine WA_skip ?_; try simp only [go_sem]) | (refine WA_ret ?_; try simp only [go_sem]) | refine WA_ct rfl ?_ | refine WA_cf rfl ?_))
    ((first | refine ret_none (by first | exact .inr rfl | exact .inl rfl) ?_ | refine ret_same (by first | exact .inr rfl | exact .inl rfl) ?_ (by first | rfl | exact plain_agg (by simp only [go_sem]) | exact plain_two (by first | exact plain_agg (by simp only [go_sem]) | rfl) (by first | exact plain_agg (by simp only [go_sem]) | rfl)) | refine ret_full (by first | exact .inr rfl | exact .inl rfl) (by simp) ?_); simp (maxSteps := 1000000) (disch := first | omega | rfl | decide | (simp only [List.length_cons, List.length_nil, List.length_append, Bs_length, Is_length, Vs_length, Bl_length, Il_length] <;> omega)) only [go_sem, Nat.reduceAdd, Int.reduceAdd, Int.reduceSub, Int.reduceMul, Bool.not_true, Bool.not_false]; try rfl)

end Go.Proofs.Ytkgiocoiojdgfaa
/- What the laws of functions share: draws told with memory opaque. -/
namespace Go.Proofs.Ytkgiocoiojdgfaa
set_option linter.unusedSimpArgs false
set_option linter.unusedVariables false
set_option maxRecDepth 20000
set_option maxHeartbeats 1000000
open Go.Abs

theorem WA_midH {P : Program} {n0 : Nat} {x y : Code} {Q Q' : Exit → AS → Prop} {t : List Value} {H : List Blk} (ps : List (Nat × Value))
    (h : WA P n0 x (Then (fun s' => Drop n0 s' ⟨patT t ps, H⟩) Q') ⟨t, H⟩) (h2 : WA P n0 y Q ⟨patT t ps, H⟩) : WA P n0 x (Then (WA P n0 y Q) Q') ⟨t, H⟩ := WA_mid _ h h2
theorem app_app {h H L : List Blk} (e : ∃ A, H = h ++ A) : ∃ A, H ++ L = h ++ A := by
  obtain ⟨A, rfl⟩ := e
  exact ⟨A ++ L, List.append_assoc ..⟩
theorem app_len {h H : List Blk} (e : ∃ A, H = h ++ A) : h.length ≤ H.length := by
  obtain ⟨A, rfl⟩ := e
  simp
theorem fcN_is {n : Nat} (hn : fieldB n = true) : fcN (n : Int) = 0 := by unfold fcN; rw [Int.toNat_natCast, hn]; rfl
theorem tmI_is {n : Nat} (hn : fieldB n = true) (a b : UInt8) : tmI (n : Int) a b = tm n a b := by unfold tmI; rw [Int.toNat_natCast, hn]; rfl
theorem big_ac {h : List Blk} {cv : Value} (c : Cv h cv) : AC Try.prog 18 [cv] h (.bool false) h := by
  cases c with
  | nil =>
    (refine AC_begin (fun _ _ => Try.call18 _ _) Try.func18 rfl Try.ntmps18 Try.results18 (fun hwf => ?_); simp only [List.length_cons, List.length_nil, Nat.reduceAdd, Nat.reduceSub, List.replicate, List.cons_append, List.nil_append])
    (repeat (first | ((first | (refine And.intro ?_ ?_; focus (first | exact plain_agg (by simp only [go_sem]) | exact plain_two (by first | exact plain_agg (by simp only [go_sem]) | rfl) rfl | rfl)) | refine WA_seq (WA_region ?_) | refine WA_region ?_ | refine WA_exit ?_); try simp (maxSteps := 1000000) (disch := first | omega | rfl | decide | (simp only [List.length_cons, List.length_nil, List.length_append, Bs_length, Is_length, Vs_length, Bl_length, Il_length] <;> omega)) only [go_sem, Nat.reduceAdd, Int.reduceAdd, Int.reduceSub, Int.reduceMul, Bool.not_true, Bool.not_false]) | refine WA_seq ?_ | refine WA_block ?_ | (refine WA_skip ?_; try simp only [go_sem]) | (refine WA_ret ?_; try simp only [go_sem]) | refine WA_ct rfl ?_ | refine WA_cf rfl ?_))
    ((first | refine ret_none (by first | exact .inr rfl | exact .inl rfl) ?_ | refine ret_same (by first | exact .inr rfl | exact .inl rfl) ?_ (by first | rfl | exact plain_agg (by simp only [go_sem]) | exact plain_two (by first | exact plain_agg (by simp only [go_sem]) | rfl) (by first | exact plain_agg (by simp only [go_sem]) | rfl)) | refine ret_full (by first | exact .inr rfl | exact .inl rfl) (by simp) ?_); simp (maxSteps := 1000000) (disch := first | omega | rfl | decide | (simp only [List.length_cons, List.length_nil, List.length_append, Bs_length, Is_length, Vs_length, Bl_length, Il_length] <;> omega)) only [go_sem, Nat.reduceAdd, Int.reduceAdd, Int.reduceSub, Int.reduceMul, Bool.not_true, Bool.not_false]; try rfl)
  | @sl bc n f rc hb hn =>
    (refine AC_begin (fun _ _ => Try.call18 _ _) Try.func18 rfl Try.ntmps18 Try.results18 (fun hwf => ?_); simp only [List.length_cons, List.length_nil, Nat.reduceAdd, Nat.reduceSub, List.replicate, List.cons_append, List.nil_append])
    (repeat (first | ((first | (refine And.intro ?_ ?_; focus (first | exact plain_agg (by simp only [go_sem]) | exact plain_two (by first | exact plain_agg (by simp only [go_sem]) | rfl) rfl | rfl)) | refine WA_seq (WA_region ?_) | refine WA_region ?_ | refine WA_exit ?_); try simp (maxSteps := 1000000) (disch := first | omega | rfl | decide | (simp only [List.length_cons, List.length_nil, List.length_append, Bs_length, Is_length, Vs_length, Bl_length, Il_length] <;> omega)) only [go_sem, Nat.reduceAdd, Int.reduceAdd, Int.reduceSub, Int.reduceMul, Bool.not_true, Bool.not_false, show decide (4096 < n) = false from decide_eq_false (by omega)]) | refine WA_seq ?_ | refine WA_block ?_ | (refine WA_skip ?_; try simp only [go_sem]) | (refine WA_ret ?_; try simp only [go_sem]) | refine WA_ct rfl ?_ | refine WA_cf rfl ?_))
    ((first | refine ret_none (by first | exact .inr rfl | exact .inl rfl) ?_ | refine ret_same (by first | exact .inr rfl | exact .inl rfl) ?_ (by first | rfl | exact plain_agg (by simp only [go_sem]) | exact plain_two (by first | exact plain_agg (by simp only [go_sem]) | rfl) (by first | exact plain_agg (by simp only [go_sem]) | rfl)) | refine ret_full (by first | exact .inr rfl | exact .inl rfl) (by simp) ?_); simp (maxSteps := 1000000) (disch := first | omega | rfl | decide | (simp only [List.length_cons, List.length_nil, List.length_append, Bs_length, Is_length, Vs_length, Bl_length, Il_length] <;> omega)) only [go_sem, Nat.reduceAdd, Int.reduceAdd, Int.reduceSub, Int.reduceMul, Bool.not_true, Bool.not_false]; try rfl)
theorem big_long {b n : Nat} (hn : 4096 < n) (hn2 : n ≤ 9223372036854775807) (h : List Blk) : AC Try.prog 18 [sl b 0 n 1] h (.bool true) h := by
  (refine AC_begin (fun _ _ => Try.call18 _ _) Try.func18 rfl Try.ntmps18 Try.results18 (fun hwf => ?_); simp only [List.length_cons, List.length_nil, Nat.reduceAdd, Nat.reduceSub, List.replicate, List.cons_append, List.nil_append])
  (repeat (first | ((first | (refine And.intro ?_ ?_; focus (first | exact plain_agg (by simp only [go_sem]) | exact plain_two (by first | exact plain_agg (by simp only [go_sem]) | rfl) rfl | rfl)) | refine WA_seq (WA_region ?_) | refine WA_region ?_ | refine WA_exit ?_); try simp (maxSteps := 1000000) (disch := first | omega | rfl | decide | (simp only [List.length_cons, List.length_nil, List.length_append, Bs_length, Is_length, Vs_length, Bl_length, Il_length] <;> omega)) only [go_sem, Nat.reduceAdd, Int.reduceAdd, Int.reduceSub, Int.reduceMul, Bool.not_true, Bool.not_false, show decide (4096 < n) = true from decide_eq_true hn]) | refine WA_seq ?_ | refine WA_block ?_ | (refine WA_skip ?_; try simp only [go_sem]) | (refine WA_ret ?_; try simp only [go_sem]) | refine WA_ct rfl ?_ | refine WA_cf rfl ?_))
  ((first | refine ret_none (by first | exact .inr rfl | exact .inl rfl) ?_ | refine ret_same (by first | exact .inr rfl | exact .inl rfl) ?_ (by first | rfl | exact plain_agg (by simp only [go_sem]) | exact plain_two (by first | exact plain_agg (by simp only [go_sem]) | rfl) (by first | exact plain_agg (by simp only [go_sem]) | rfl)) | refine ret_full (by first | exact .inr rfl | exact .inl rfl) (by simp) ?_); simp (maxSteps := 1000000) (disch := first | omega | rfl | decide | (simp only [List.length_cons, List.length_nil, List.length_append, Bs_length, Is_length, Vs_length, Bl_length, Il_length] <;> omega)) only [go_sem, Nat.reduceAdd, Int.reduceAdd, Int.reduceSub, Int.reduceMul, Bool.not_true, Bool.not_false]; try rfl)

end Go.Proofs.Ytkgiocoiojdgfaa
/- Functions of matrices: products, transposes, bits. -/
namespace Go.Proofs.Ytkgiocoiojdgfaa
set_option linter.unusedSimpArgs false
set_option linter.unusedVariables false
set_option maxRecDepth 20000
set_option maxHeartbeats 1000000
open Go.Abs

theorem tmxS_ac (m : Int) (a b : Nat → UInt8) (h : List Blk) : AC Try.prog 74 [.int .i64 m, .agg (Bs 16 a).toArray, .agg (Bs 16 b).toArray] h (.tuple #[.agg (Bs 16 (cond (fieldB m.toNat) (mmF m.toNat a b) zeroF)).toArray, .int .i64 (fcN m)]) h := by
  cases hf : fieldB m.toNat
  · (refine AC_begin (fun _ _ => Try.call74 _ _) Try.func74 rfl Try.ntmps74 Try.results74 (fun hwf => ?_); simp only [List.length_cons, List.length_nil, Nat.reduceAdd, Nat.reduceSub, List.replicate, List.cons_append, List.nil_append])
    (repeat (first | ((first | (refine And.intro ?_ ?_; focus (first | exact plain_agg (by simp only [go_sem]) | exact plain_two (by first | exact plain_agg (by simp only [go_sem]) | rfl) rfl | rfl)) | ((first | with_reducible apply callB_i | with_reducible apply callK_intro | with_reducible apply callQ_i); (focus (first | assumption | (with_reducible apply fieldS_ac <;> (first | assumption | rfl | (simp (disch := omega) only [go_sem]; first | done | rfl) | omega | decide | (simp; done))))); (try (focus (refine WP.mk ?_ ?_; (focus ((repeat (first | exact trivial | (refine And.intro ?_ ?_; (focus first | exact plainV_wf rfl | (refine plainV_wf (plain_agg ?_); simp only [go_sem]; done) | (simp only [wfV, wf1, wfC, List.length_append, List.length_cons, List.length_nil]; omega))))))); (focus (first | rfl | (refine plain_agg ?_; simp only [go_sem]; done) | (refine plain_two ?_ ?_ <;> first | rfl | (refine plain_agg ?_; simp only [go_sem]; done)))))))) | refine WA_seq (WA_region ?_) | refine WA_region ?_ | refine WA_exit ?_); try simp (maxSteps := 1000000) (disch := first | omega | rfl | decide | (simp only [List.length_cons, List.length_nil, List.length_append, Bs_length, Is_length, Vs_length, Bl_length, Il_length] <;> omega)) only [go_sem, Nat.reduceAdd, Int.reduceAdd, Int.reduceSub, Int.reduceMul, Bool.not_true, Bool.not_false, hf, Bool.not_false]) | refine WA_seq ?_ | refine WA_block ?_ | (refine WA_skip ?_; try simp only [go_sem]) | (refine WA_ret ?_; try simp only [go_sem]) | refine WA_ct rfl ?_ | refine WA_cf rfl ?_))
    ((first | refine ret_none (by first | exact .inr rfl | exact .inl rfl) ?_ | refine ret_same (by first | exact .inr rfl | exact .inl rfl) ?_ (by first | rfl | exact plain_agg (by simp only [go_sem]) | exact plain_two (by first | exact plain_agg (by simp only [go_sem]) | rfl) (by first | exact plain_agg (by simp only [go_sem]) | rfl)) | refine ret_full (by first | exact .inr rfl | exact .inl rfl) (by simp) ?_); simp (maxSteps := 1000000) (disch := first | omega | rfl | decide | (simp only [List.length_cons, List.length_nil, List.length_append, Bs_length, Is_length, Vs_length, Bl_length, Il_length] <;> omega)) only [go_sem, Nat.reduceAdd, Int.reduceAdd, Int.reduceSub, Int.reduceMul, Bool.not_true, Bool.not_false, fcN, hf, cond_false]; try rfl)
  · obtain ⟨n, rfl, hn, h0, h1⟩ := fieldB_nat hf
    (refine AC_begin (fun _ _ => Try.call74 _ _) Try.func74 rfl Try.ntmps74 Try.results74 (fun hwf => ?_); simp only [List.length_cons, List.length_nil, Nat.reduceAdd, Nat.reduceSub, List.replicate, List.cons_append, List.nil_append])
    (repeat (first | ((first | (refine And.intro ?_ ?_; focus (first | exact plain_agg (by simp only [go_sem]) | exact plain_two (by first | exact plain_agg (by simp only [go_sem]) | rfl) rfl | rfl)) | ((first | with_reducible apply callB_i | with_reducible apply callK_intro | with_reducible apply callQ_i); (focus (first | assumption | ((first | with_reducible apply fieldS_ac | with_reducible apply mmS_ac h0 h1) <;> (first | assumption | rfl | (simp (disch := omega) only [go_sem]; first | done | rfl) | omega | decide | (simp; done))))); (try (focus (refine WP.mk ?_ ?_; (focus ((repeat (first | exact trivial | (refine And.intro ?_ ?_; (focus first | exact plainV_wf rfl | (refine plainV_wf (plain_agg ?_); simp only [go_sem]; done) | (simp only [wfV, wf1, wfC, List.length_append, List.length_cons, List.length_nil]; omega))))))); (focus (first | rfl | (refine plain_agg ?_; simp only [go_sem]; done) | (refine plain_two ?_ ?_ <;> first | rfl | (refine plain_agg ?_; simp only [go_sem]; done)))))))) | refine WA_seq (WA_region ?_) | refine WA_region ?_ | refine WA_exit ?_); try simp (maxSteps := 1000000) (disch := first | omega | rfl | decide | (simp only [List.length_cons, List.length_nil, List.length_append, Bs_length, Is_length, Vs_length, Bl_length, Il_length] <;> omega)) only [go_sem, Nat.reduceAdd, Int.reduceAdd, Int.reduceSub, Int.reduceMul, Bool.not_true, Bool.not_false, hn, Bool.not_true]) | refine WA_seq ?_ | refine WA_block ?_ | (refine WA_skip ?_; try simp only [go_sem]) | (refine WA_ret ?_; try simp only [go_sem]) | refine WA_ct rfl ?_ | refine WA_cf rfl ?_))
    ((first | refine ret_none (by first | exact .inr rfl | exact .inl rfl) ?_ | refine ret_same (by first | exact .inr rfl | exact .inl rfl) ?_ (by first | rfl | exact plain_agg (by simp only [go_sem]) | exact plain_two (by first | exact plain_agg (by simp only [go_sem]) | rfl) (by first | exact plain_agg (by simp only [go_sem]) | rfl)) | refine ret_full (by first | exact .inr rfl | exact .inl rfl) (by simp) ?_); simp (maxSteps := 1000000) (disch := first | omega | rfl | decide | (simp only [List.length_cons, List.length_nil, List.length_append, Bs_length, Is_length, Vs_length, Bl_length, Il_length] <;> omega)) only [go_sem, Nat.reduceAdd, Int.reduceAdd, Int.reduceSub, Int.reduceMul, Bool.not_true, Bool.not_false, fcN, hn, cond_true, Int.toNat_natCast]; try rfl)

theorem tmxI_ac (m : Int) (a b : Nat → UInt8) (h : List Blk) : AC Try.prog 73 [.int .i64 m, .agg (Bs 16 a).toArray, .agg (Bs 16 b).toArray] h (.tuple #[.agg (Bs 16 (cond (fieldB m.toNat) (mmF m.toNat a b) zeroF)).toArray, .int .i64 (fcN m)]) h := by
  cases hf : fieldB m.toNat
  · (refine AC_begin (fun _ _ => Try.call73 _ _) Try.func73 rfl Try.ntmps73 Try.results73 (fun hwf => ?_); simp only [List.length_cons, List.length_nil, Nat.reduceAdd, Nat.reduceSub, List.replicate, List.cons_append, List.nil_append])
    (repeat (first | ((first | (refine And.intro ?_ ?_; focus (first | exact plain_agg (by simp only [go_sem]) | exact plain_two (by first | exact plain_agg (by simp only [go_sem]) | rfl) rfl | rfl)) | ((first | with_reducible apply callB_i | with_reducible apply callK_intro | with_reducible apply callQ_i); (focus (first | assumption | (with_reducible apply isField_ac <;> (first | assumption | rfl | (simp (disch := omega) only [go_sem]; first | done | rfl) | omega | decide | (simp; done))))); (try (focus (refine WP.mk ?_ ?_; (focus ((repeat (first | exact trivial | (refine And.intro ?_ ?_; (focus first | exact plainV_wf rfl | (refine plainV_wf (plain_agg ?_); simp only [go_sem]; done) | (simp only [wfV, wf1, wfC, List.length_append, List.length_cons, List.length_nil]; omega))))))); (focus (first | rfl | (refine plain_agg ?_; simp only [go_sem]; done) | (refine plain_two ?_ ?_ <;> first | rfl | (refine plain_agg ?_; simp only [go_sem]; done)))))))) | refine WA_seq (WA_region ?_) | refine WA_region ?_ | refine WA_exit ?_); try simp (maxSteps := 1000000) (disch := first | omega | rfl | decide | (simp only [List.length_cons, List.length_nil, List.length_append, Bs_length, Is_length, Vs_length, Bl_length, Il_length] <;> omega)) only [go_sem, Nat.reduceAdd, Int.reduceAdd, Int.reduceSub, Int.reduceMul, Bool.not_true, Bool.not_false, hf, Bool.not_false]) | refine WA_seq ?_ | refine WA_block ?_ | (refine WA_skip ?_; try simp only [go_sem]) | (refine WA_ret ?_; try simp only [go_sem]) | refine WA_ct rfl ?_ | refine WA_cf rfl ?_))
    ((first | refine ret_none (by first | exact .inr rfl | exact .inl rfl) ?_ | refine ret_same (by first | exact .inr rfl | exact .inl rfl) ?_ (by first | rfl | exact plain_agg (by simp only [go_sem]) | exact plain_two (by first | exact plain_agg (by simp only [go_sem]) | rfl) (by first | exact plain_agg (by simp only [go_sem]) | rfl)) | refine ret_full (by first | exact .inr rfl | exact .inl rfl) (by simp) ?_); simp (maxSteps := 1000000) (disch := first | omega | rfl | decide | (simp only [List.length_cons, List.length_nil, List.length_append, Bs_length, Is_length, Vs_length, Bl_length, Il_length] <;> omega)) only [go_sem, Nat.reduceAdd, Int.reduceAdd, Int.reduceSub, Int.reduceMul, Bool.not_true, Bool.not_false, fcN, hf, cond_false]; try rfl)
  · obtain ⟨n, rfl, hn, h0, h1⟩ := fieldB_nat hf
    (refine AC_begin (fun _ _ => Try.call73 _ _) Try.func73 rfl Try.ntmps73 Try.results73 (fun hwf => ?_); simp only [List.length_cons, List.length_nil, Nat.reduceAdd, Nat.reduceSub, List.replicate, List.cons_append, List.nil_append])
    (repeat (first | ((first | (refine And.intro ?_ ?_; focus (first | exact plain_agg (by simp only [go_sem]) | exact plain_two (by first | exact plain_agg (by simp only [go_sem]) | rfl) rfl | rfl)) | ((first | with_reducible apply callB_i | with_reducible apply callK_intro | with_reducible apply callQ_i); (focus (first | assumption | ((first | with_reducible apply isField_ac | with_reducible apply mmI_ac h0 h1) <;> (first | assumption | rfl | (simp (disch := omega) only [go_sem]; first | done | rfl) | omega | decide | (simp; done))))); (try (focus (refine WP.mk ?_ ?_; (focus ((repeat (first | exact trivial | (refine And.intro ?_ ?_; (focus first | exact plainV_wf rfl | (refine plainV_wf (plain_agg ?_); simp only [go_sem]; done) | (simp only [wfV, wf1, wfC, List.length_append, List.length_cons, List.length_nil]; omega))))))); (focus (first | rfl | (refine plain_agg ?_; simp only [go_sem]; done) | (refine plain_two ?_ ?_ <;> first | rfl | (refine plain_agg ?_; simp only [go_sem]; done)))))))) | refine WA_seq (WA_region ?_) | refine WA_region ?_ | refine WA_exit ?_); try simp (maxSteps := 1000000) (disch := first | omega | rfl | decide | (simp only [List.length_cons, List.length_nil, List.length_append, Bs_length, Is_length, Vs_length, Bl_length, Il_length] <;> omega)) only [go_sem, Nat.reduceAdd, Int.reduceAdd, Int.reduceSub, Int.reduceMul, Bool.not_true, Bool.not_false, hn, Bool.not_true]) | refine WA_seq ?_ | refine WA_block ?_ | (refine WA_skip ?_; try simp only [go_sem]) | (refine WA_ret ?_; try simp only [go_sem]) | refine WA_ct rfl ?_ | refine WA_cf rfl ?_))
    ((first | refine ret_none (by first | exact .inr rfl | exact .inl rfl) ?_ | refine ret_same (by first | exact .inr rfl | exact .inl rfl) ?_ (by first | rfl | exact plain_agg (by simp only [go_sem]) | exact plain_two (by first | exact plain_agg (by simp only [go_sem]) | rfl) (by first | exact plain_agg (by simp only [go_sem]) | rfl)) | refine ret_full (by first | exact .inr rfl | exact .inl rfl) (by simp) ?_); simp (maxSteps := 1000000) (disch := first | omega | rfl | decide | (simp only [List.length_cons, List.length_nil, List.length_append, Bs_length, Is_length, Vs_length, Bl_length, Il_length] <;> omega)) only [go_sem, Nat.reduceAdd, Int.reduceAdd, Int.reduceSub, Int.reduceMul, Bool.not_true, Bool.not_false, fcN, hn, cond_true, Int.toNat_natCast]; try rfl)

theorem trpS_ac (a : Nat → UInt8) (h : List Blk) : AC Try.prog 82 [.agg (Bs 16 a).toArray] h (.agg (Bs 16 (trF a)).toArray) h := by
  (refine AC_begin (fun _ _ => Try.call82 _ _) Try.func82 rfl Try.ntmps82 Try.results82 (fun hwf => ?_); simp only [List.length_cons, List.length_nil, Nat.reduceAdd, Nat.reduceSub, List.replicate, List.cons_append, List.nil_append])
  (repeat (first | ((first | (refine And.intro ?_ ?_; focus (first | exact plain_agg (by simp only [go_sem]) | exact plain_two (by first | exact plain_agg (by simp only [go_sem]) | rfl) rfl | rfl)) | refine WA_seq (WA_region ?_) | refine WA_region ?_ | refine WA_exit ?_); try simp (maxSteps := 1000000) (disch := first | omega | rfl | decide | (simp only [List.length_cons, List.length_nil, List.length_append, Bs_length, Is_length, Vs_length, Bl_length, Il_length] <;> omega)) only [go_sem, Nat.reduceAdd, Int.reduceAdd, Int.reduceSub, Int.reduceMul, Bool.not_true, Bool.not_false]) | refine WA_seq ?_ | refine WA_block ?_ | (refine WA_skip ?_; try simp only [go_sem]) | (refine WA_ret ?_; try simp only [go_sem]) | refine WA_ct rfl ?_ | refine WA_cf rfl ?_))
  refine WA_forP (fun k => [(4, .int .i64 k), (5, J), (7, J), (8, J), (9, J), (10, J), (11, J), (12, J), (13, J), (14, J), (15, J), (16, J), (17, J), (18, J), (19, J), (20, J), (21, J), (22, J), (23, J)]) (fun k => [(2, ⟨Bs 16 (tsS a k 0), true⟩)]) (4) ?_ ?_ ?_ <;> (try simp only [patT_cons, patT_nil, patL_cons, patL_nil, list_set_zero, list_set_succ, blk_set_zero, blk_set_succ])
  · rw [tsS_zero]
    (refine Drop_slots (by first | exact Nat.le_refl _ | simp) ?_; focus ((try simp only [JL_same, JL_J, JL_nil, Int.reduceAdd, Nat.sub_sub, Int.natCast_add, Int.natCast_one, Int.natCast_zero, Int.cast_ofNat_Int, Nat.add_zero, Bool.false_eq_true, if_false, if_true]); (try exact JL_refl _)))
  · intro i hi
    (repeat (first | ((first | (refine And.intro ?_ ?_; focus (first | exact plain_agg (by simp only [go_sem]) | exact plain_two (by first | exact plain_agg (by simp only [go_sem]) | rfl) rfl | rfl)) | refine WA_seq (WA_region ?_) | refine WA_region ?_ | refine WA_exit ?_); try simp (maxSteps := 1000000) (disch := first | omega | rfl | decide | (simp only [List.length_cons, List.length_nil, List.length_append, Bs_length, Is_length, Vs_length, Bl_length, Il_length] <;> omega)) only [go_sem, Nat.reduceAdd, Int.reduceAdd, Int.reduceSub, Int.reduceMul, Bool.not_true, Bool.not_false]) | refine WA_seq ?_ | refine WA_block ?_ | (refine WA_skip ?_; try simp only [go_sem]) | (refine WA_ret ?_; try simp only [go_sem]) | refine WA_ct rfl ?_ | refine WA_cf rfl ?_))
    refine WA_forP (fun k => [(5, .int .i64 k), (11, J), (12, J), (13, J), (14, J), (15, J), (16, J), (17, J), (18, J), (19, J), (20, J), (21, J), (22, J), (23, J)]) (fun k => [(2, ⟨Bs 16 (tsS a i k), true⟩)]) (4) ?_ ?_ ?_ <;> (try simp only [patT_cons, patT_nil, patL_cons, patL_nil, list_set_zero, list_set_succ, blk_set_zero, blk_set_succ])
    · (refine Drop_slots (by first | exact Nat.le_refl _ | simp) ?_; focus ((try simp only [JL_same, JL_J, JL_nil, Int.reduceAdd, Nat.sub_sub, Int.natCast_add, Int.natCast_one, Int.natCast_zero, Int.cast_ofNat_Int, Nat.add_zero, Bool.false_eq_true, if_false, if_true]); (try exact JL_refl _)))
    · intro j hj
      (repeat (first | ((first | (refine And.intro ?_ ?_; focus (first | exact plain_agg (by simp only [go_sem]) | exact plain_two (by first | exact plain_agg (by simp only [go_sem]) | rfl) rfl | rfl)) | refine WA_seq (WA_region ?_) | refine WA_region ?_ | refine WA_exit ?_); try simp (maxSteps := 1000000) (disch := first | omega | rfl | decide | (simp only [List.length_cons, List.length_nil, List.length_append, Bs_length, Is_length, Vs_length, Bl_length, Il_length] <;> omega)) only [go_sem, Nat.reduceAdd, Int.reduceAdd, Int.reduceSub, Int.reduceMul, Bool.not_true, Bool.not_false, tsS_set hi hj]) | (refine (WA_rb (id := 8) [9] (SubM.refl _) mixedOk ?_); simp only [List.size_toArray, List.length_cons, List.length_nil]; (repeat (first | ((first | (refine And.intro ?_ ?_; focus (first | exact plain_agg (by simp only [go_sem]) | exact plain_two (by first | exact plain_agg (by simp only [go_sem]) | rfl) rfl | rfl)) | refine RB_take false [0, 1, 2, 3, 4, 5, 7] 3 (by rfl) (by kernel_rfl) (by decide) (by decide +kernel) ?_ | refine RB_take true [6] 2 (by rfl) (by kernel_rfl) (by decide) (by decide +kernel) ?_ | refine RB_take false [8] 1 (by rfl) (by kernel_rfl) (by decide) (by decide +kernel) ?_ | refine RB_exec 9 _ (by rfl) (by decide +kernel) (by decide +kernel) ?_ | refine RB_done (by decide +kernel) ?_); try simp (maxSteps := 1000000) (disch := first | omega | rfl | decide | (simp only [List.length_cons, List.length_nil, List.length_append, Bs_length, Is_length, Vs_length, Bl_length, Il_length] <;> omega)) only [go_sem, Nat.reduceAdd, Int.reduceAdd, Int.reduceSub, Int.reduceMul, Bool.not_true, Bool.not_false, tsS_set hi hj])))) | refine WA_seq ?_ | refine WA_block ?_ | (refine WA_skip ?_; try simp only [go_sem]) | (refine WA_ret ?_; try simp only [go_sem]) | refine WA_ct rfl ?_ | refine WA_cf rfl ?_))
      (refine Drop_slots (by first | exact Nat.le_refl _ | simp) ?_; focus ((try simp only [JL_same, JL_J, JL_nil, Int.reduceAdd, Nat.sub_sub, Int.natCast_add, Int.natCast_one, Int.natCast_zero, Int.cast_ofNat_Int, Nat.add_zero, Bool.false_eq_true, if_false, if_true]); (try exact JL_refl _)))
    · (repeat (first | ((first | (refine And.intro ?_ ?_; focus (first | exact plain_agg (by simp only [go_sem]) | exact plain_two (by first | exact plain_agg (by simp only [go_sem]) | rfl) rfl | rfl)) | refine WA_seq (WA_region ?_) | refine WA_region ?_ | refine WA_exit ?_); try simp (maxSteps := 1000000) (disch := first | omega | rfl | decide | (simp only [List.length_cons, List.length_nil, List.length_append, Bs_length, Is_length, Vs_length, Bl_length, Il_length] <;> omega)) only [go_sem, Nat.reduceAdd, Int.reduceAdd, Int.reduceSub, Int.reduceMul, Bool.not_true, Bool.not_false]) | refine WA_seq ?_ | refine WA_block ?_ | (refine WA_skip ?_; try simp only [go_sem]) | (refine WA_ret ?_; try simp only [go_sem]) | refine WA_ct rfl ?_ | refine WA_cf rfl ?_))
      rw [tsS_next]
      (refine Drop_slots (by first | exact Nat.le_refl _ | simp) ?_; focus ((try simp only [JL_same, JL_J, JL_nil, Int.reduceAdd, Nat.sub_sub, Int.natCast_add, Int.natCast_one, Int.natCast_zero, Int.cast_ofNat_Int, Nat.add_zero, Bool.false_eq_true, if_false, if_true]); (try exact JL_refl _)))
  · (repeat (first | ((first | (refine And.intro ?_ ?_; focus (first | exact plain_agg (by simp only [go_sem]) | exact plain_two (by first | exact plain_agg (by simp only [go_sem]) | rfl) rfl | rfl)) | refine WA_seq (WA_region ?_) | refine WA_region ?_ | refine WA_exit ?_); try simp (maxSteps := 1000000) (disch := first | omega | rfl | decide | (simp only [List.length_cons, List.length_nil, List.length_append, Bs_length, Is_length, Vs_length, Bl_length, Il_length] <;> omega)) only [go_sem, Nat.reduceAdd, Int.reduceAdd, Int.reduceSub, Int.reduceMul, Bool.not_true, Bool.not_false]) | refine WA_seq ?_ | refine WA_block ?_ | (refine WA_skip ?_; try simp only [go_sem]) | (refine WA_ret ?_; try simp only [go_sem]) | refine WA_ct rfl ?_ | refine WA_cf rfl ?_))
    rw [tsS_all]
    ((first | refine ret_none (by first | exact .inr rfl | exact .inl rfl) ?_ | refine ret_same (by first | exact .inr rfl | exact .inl rfl) ?_ (by first | rfl | exact plain_agg (by simp only [go_sem]) | exact plain_two (by first | exact plain_agg (by simp only [go_sem]) | rfl) (by first | exact plain_agg (by simp only [go_sem]) | rfl)) | refine ret_full (by first | exact .inr rfl | exact .inl rfl) (by simp) ?_); simp (maxSteps := 1000000) (disch := first | omega | rfl | decide | (simp only [List.length_cons, List.length_nil, List.length_append, Bs_length, Is_length, Vs_length, Bl_length, Il_length] <;> omega)) only [go_sem, Nat.reduceAdd, Int.reduceAdd, Int.reduceSub, Int.reduceMul, Bool.not_true, Bool.not_false]; try rfl)

theorem trpI_ac (a : Nat → UInt8) (h : List Blk) : AC Try.prog 81 [.agg (Bs 16 a).toArray] h (.agg (Bs 16 (trF a)).toArray) h := by
  (refine AC_begin (fun _ _ => Try.call81 _ _) Try.func81 rfl Try.ntmps81 Try.results81 (fun hwf => ?_); simp only [List.length_cons, List.length_nil, Nat.reduceAdd, Nat.reduceSub, List.replicate, List.cons_append, List.nil_append])
  (repeat (first | ((first | (refine And.intro ?_ ?_; focus (first | exact plain_agg (by simp only [go_sem]) | exact plain_two (by first | exact plain_agg (by simp only [go_sem]) | rfl) rfl | rfl)) | refine WA_seq (WA_region ?_) | refine WA_region ?_ | refine WA_exit ?_); try simp (maxSteps := 1000000) (disch := first | omega | rfl | decide | (simp only [List.length_cons, List.length_nil, List.length_append, Bs_length, Is_length, Vs_length, Bl_length, Il_length] <;> omega)) only [go_sem, Nat.reduceAdd, Int.reduceAdd, Int.reduceSub, Int.reduceMul, Bool.not_true, Bool.not_false]) | refine WA_seq ?_ | refine WA_block ?_ | (refine WA_skip ?_; try simp only [go_sem]) | (refine WA_ret ?_; try simp only [go_sem]) | refine WA_ct rfl ?_ | refine WA_cf rfl ?_))
  refine WA_forP (fun k => [(4, J), (5, J), (7, .int .i64 k), (8, J), (9, J), (10, J), (11, J), (12, J), (13, J), (14, J), (15, J), (16, J), (17, J), (18, J), (19, J), (20, J), (21, J), (22, J), (23, J)]) (fun k => [(2, ⟨Bs 16 (pre (k * 4) (trF a) fun _ => 0), true⟩)]) (4) ?_ ?_ ?_ <;> (try simp only [patT_cons, patT_nil, patL_cons, patL_nil, list_set_zero, list_set_succ, blk_set_zero, blk_set_succ])
  · rw [Nat.zero_mul, pre_zero]
    (refine Drop_slots (by first | exact Nat.le_refl _ | simp) ?_; focus ((try simp only [JL_same, JL_J, JL_nil, Int.reduceAdd, Nat.sub_sub, Int.natCast_add, Int.natCast_one, Int.natCast_zero, Int.cast_ofNat_Int, Nat.add_zero, Bool.false_eq_true, if_false, if_true]); (try exact JL_refl _)))
  · intro i hi
    (repeat (first | ((first | (refine And.intro ?_ ?_; focus (first | exact plain_agg (by simp only [go_sem]) | exact plain_two (by first | exact plain_agg (by simp only [go_sem]) | rfl) rfl | rfl)) | refine WA_seq (WA_region ?_) | refine WA_region ?_ | refine WA_exit ?_); try simp (maxSteps := 1000000) (disch := first | omega | rfl | decide | (simp only [List.length_cons, List.length_nil, List.length_append, Bs_length, Is_length, Vs_length, Bl_length, Il_length] <;> omega)) only [go_sem, Nat.reduceAdd, Int.reduceAdd, Int.reduceSub, Int.reduceMul, Bool.not_true, Bool.not_false]) | refine WA_seq ?_ | refine WA_block ?_ | (refine WA_skip ?_; try simp only [go_sem]) | (refine WA_ret ?_; try simp only [go_sem]) | refine WA_ct rfl ?_ | refine WA_cf rfl ?_))
    refine WA_forP (fun k => [(5, J), (10, .int .i64 k), (11, J), (12, J), (13, J), (14, J), (15, J), (16, J), (17, J), (18, J), (19, J), (20, J), (21, J), (22, J)]) (fun k => [(2, ⟨Bs 16 (pre (i * 4 + k) (trF a) fun _ => 0), true⟩)]) (4) ?_ ?_ ?_ <;> (try simp only [patT_cons, patT_nil, patL_cons, patL_nil, list_set_zero, list_set_succ, blk_set_zero, blk_set_succ])
    · (refine Drop_slots (by first | exact Nat.le_refl _ | simp) ?_; focus ((try simp only [JL_same, JL_J, JL_nil, Int.reduceAdd, Nat.sub_sub, Int.natCast_add, Int.natCast_one, Int.natCast_zero, Int.cast_ofNat_Int, Nat.add_zero, Bool.false_eq_true, if_false, if_true]); (try exact JL_refl _)))
    · intro j hj
      (repeat (first | ((first | (refine And.intro ?_ ?_; focus (first | exact plain_agg (by simp only [go_sem]) | exact plain_two (by first | exact plain_agg (by simp only [go_sem]) | rfl) rfl | rfl)) | refine WA_seq (WA_region ?_) | refine WA_region ?_ | refine WA_exit ?_); try simp (maxSteps := 1000000) (disch := first | omega | rfl | decide | (simp only [List.length_cons, List.length_nil, List.length_append, Bs_length, Is_length, Vs_length, Bl_length, Il_length] <;> omega)) only [go_sem, Nat.reduceAdd, Int.reduceAdd, Int.reduceSub, Int.reduceMul, Bool.not_true, Bool.not_false, show a (j * 4 + i) = trF a (i * 4 + j) from (trF_at hj).symm, upd_pre]) | (refine (WA_rb (id := 8) [9] (SubM.refl _) mixedOk ?_); simp only [List.size_toArray, List.length_cons, List.length_nil]; (repeat (first | ((first | (refine And.intro ?_ ?_; focus (first | exact plain_agg (by simp only [go_sem]) | exact plain_two (by first | exact plain_agg (by simp only [go_sem]) | rfl) rfl | rfl)) | refine RB_take false [0, 1, 2, 3, 4, 5, 7] 3 (by rfl) (by kernel_rfl) (by decide) (by decide +kernel) ?_ | refine RB_take true [6] 2 (by rfl) (by kernel_rfl) (by decide) (by decide +kernel) ?_ | refine RB_take false [8] 1 (by rfl) (by kernel_rfl) (by decide) (by decide +kernel) ?_ | refine RB_exec 9 _ (by rfl) (by decide +kernel) (by decide +kernel) ?_ | refine RB_done (by decide +kernel) ?_); try simp (maxSteps := 1000000) (disch := first | omega | rfl | decide | (simp only [List.length_cons, List.length_nil, List.length_append, Bs_length, Is_length, Vs_length, Bl_length, Il_length] <;> omega)) only [go_sem, Nat.reduceAdd, Int.reduceAdd, Int.reduceSub, Int.reduceMul, Bool.not_true, Bool.not_false, show a (j * 4 + i) = trF a (i * 4 + j) from (trF_at hj).symm, upd_pre])))) | refine WA_seq ?_ | refine WA_block ?_ | (refine WA_skip ?_; try simp only [go_sem]) | (refine WA_ret ?_; try simp only [go_sem]) | refine WA_ct rfl ?_ | refine WA_cf rfl ?_))
      (refine Drop_slots (by first | exact Nat.le_refl _ | simp) ?_; focus ((try simp only [JL_same, JL_J, JL_nil, Int.reduceAdd, Nat.sub_sub, Int.natCast_add, Int.natCast_one, Int.natCast_zero, Int.cast_ofNat_Int, Nat.add_zero, Bool.false_eq_true, if_false, if_true]); (try exact JL_refl _)))
    · (repeat (first | ((first | (refine And.intro ?_ ?_; focus (first | exact plain_agg (by simp only [go_sem]) | exact plain_two (by first | exact plain_agg (by simp only [go_sem]) | rfl) rfl | rfl)) | refine WA_seq (WA_region ?_) | refine WA_region ?_ | refine WA_exit ?_); try simp (maxSteps := 1000000) (disch := first | omega | rfl | decide | (simp only [List.length_cons, List.length_nil, List.length_append, Bs_length, Is_length, Vs_length, Bl_length, Il_length] <;> omega)) only [go_sem, Nat.reduceAdd, Int.reduceAdd, Int.reduceSub, Int.reduceMul, Bool.not_true, Bool.not_false]) | refine WA_seq ?_ | refine WA_block ?_ | (refine WA_skip ?_; try simp only [go_sem]) | (refine WA_ret ?_; try simp only [go_sem]) | refine WA_ct rfl ?_ | refine WA_cf rfl ?_))
      rw [show (i + 1) * 4 = i * 4 + 4 by omega]
      (refine Drop_slots (by first | exact Nat.le_refl _ | simp) ?_; focus ((try simp only [JL_same, JL_J, JL_nil, Int.reduceAdd, Nat.sub_sub, Int.natCast_add, Int.natCast_one, Int.natCast_zero, Int.cast_ofNat_Int, Nat.add_zero, Bool.false_eq_true, if_false, if_true]); (try exact JL_refl _)))
  · (repeat (first | ((first | (refine And.intro ?_ ?_; focus (first | exact plain_agg (by simp only [go_sem]) | exact plain_two (by first | exact plain_agg (by simp only [go_sem]) | rfl) rfl | rfl)) | refine WA_seq (WA_region ?_) | refine WA_region ?_ | refine WA_exit ?_); try simp (maxSteps := 1000000) (disch := first | omega | rfl | decide | (simp only [List.length_cons, List.length_nil, List.length_append, Bs_length, Is_length, Vs_length, Bl_length, Il_length] <;> omega)) only [go_sem, Nat.reduceAdd, Int.reduceAdd, Int.reduceSub, Int.reduceMul, Bool.not_true, Bool.not_false]) | refine WA_seq ?_ | refine WA_block ?_ | (refine WA_skip ?_; try simp only [go_sem]) | (refine WA_ret ?_; try simp only [go_sem]) | refine WA_ct rfl ?_ | refine WA_cf rfl ?_))
    ((first | refine ret_none (by first | exact .inr rfl | exact .inl rfl) ?_ | refine ret_same (by first | exact .inr rfl | exact .inl rfl) ?_ (by first | rfl | exact plain_agg (by simp only [go_sem]) | exact plain_two (by first | exact plain_agg (by simp only [go_sem]) | rfl) (by first | exact plain_agg (by simp only [go_sem]) | rfl)) | refine ret_full (by first | exact .inr rfl | exact .inl rfl) (by simp) ?_); simp (maxSteps := 1000000) (disch := first | omega | rfl | decide | (simp only [List.length_cons, List.length_nil, List.length_append, Bs_length, Is_length, Vs_length, Bl_length, Il_length] <;> omega)) only [go_sem, Nat.reduceAdd, Int.reduceAdd, Int.reduceSub, Int.reduceMul, Bool.not_true, Bool.not_false, Bs_pre]; try rfl)

theorem bitsL_ac {m : Nat} (h0 : 256 ≤ m) (h1 : m < 512) (a : Nat → UInt8) (h : List Blk) : AC Try.prog 179 [.int .i64 m, .agg (Bs 16 a).toArray] h (sl (h.length + 1) 0 32 1) (h ++ [⟨Bs 16 a, true⟩, ⟨Is 32 (rowB m a), true⟩]) := by
  (refine AC_begin (fun _ _ => Try.call179 _ _) Try.func179 rfl Try.ntmps179 Try.results179 (fun hwf => ?_); simp only [List.length_cons, List.length_nil, Nat.reduceAdd, Nat.reduceSub, List.replicate, List.cons_append, List.nil_append])
  (repeat (first | ((first | (refine And.intro ?_ ?_; focus (first | exact plain_agg (by simp only [go_sem]) | exact plain_two (by first | exact plain_agg (by simp only [go_sem]) | rfl) rfl | rfl)) | refine WA_seq (WA_region ?_) | refine WA_region ?_ | refine WA_exit ?_); try simp (maxSteps := 1000000) (disch := first | omega | rfl | decide | (simp only [List.length_cons, List.length_nil, List.length_append, Bs_length, Is_length, Vs_length, Bl_length, Il_length] <;> omega)) only [go_sem, Nat.reduceAdd, Int.reduceAdd, Int.reduceSub, Int.reduceMul, Bool.not_true, Bool.not_false]) | refine WA_seq ?_ | refine WA_block ?_ | (refine WA_skip ?_; try simp only [go_sem]) | (refine WA_ret ?_; try simp only [go_sem]) | refine WA_ct rfl ?_ | refine WA_cf rfl ?_))
  refine WA_forP (fun k => [(3, pt h.length 0), (5, sl (h.length + 1) 0 (8 * k) 1), (6, .int .i64 k), (7, J), (8, J), (9, J), (10, J), (11, J), (12, J), (13, J), (14, J), (15, J), (16, J), (17, J), (18, J), (19, J), (20, J), (21, J), (22, J), (23, J), (24, J), (25, J), (26, J), (27, J), (28, J), (29, J), (30, J), (31, J), (32, J), (33, J), (34, J), (35, J), (36, J), (37, J), (38, J), (39, J), (40, J), (41, J), (42, J), (43, J), (44, J), (45, J), (46, J), (47, J), (48, J), (49, J), (50, J), (51, J), (52, J), (53, J), (54, J), (55, J), (56, J)]) (fun k => [(0, ⟨Bs 16 a, true⟩), (1, ⟨Is (8 * k) (rowB m a), true⟩)]) (4) ?_ ?_ ?_ <;> (try simp only [patT_cons, patT_nil, patL_cons, patL_nil, list_set_zero, list_set_succ, blk_set_zero, blk_set_succ])
  · (refine Drop_slots (by first | exact Nat.le_refl _ | simp) ?_; focus ((try simp only [JL_same, JL_J, JL_nil, Int.reduceAdd, Nat.sub_sub, Int.natCast_add, Int.natCast_one, Int.natCast_zero, Int.cast_ofNat_Int, Nat.add_zero, Bool.false_eq_true, if_false, if_true]); (try exact JL_refl _)))
  · intro i hi
    (repeat (first | ((first | (refine And.intro ?_ ?_; focus (first | exact plain_agg (by simp only [go_sem]) | exact plain_two (by first | exact plain_agg (by simp only [go_sem]) | rfl) rfl | rfl)) | refine WA_seq (WA_region ?_) | refine WA_region ?_ | refine WA_exit ?_); try simp (maxSteps := 1000000) (disch := first | omega | rfl | decide | (simp only [List.length_cons, List.length_nil, List.length_append, Bs_length, Is_length, Vs_length, Bl_length, Il_length] <;> omega)) only [go_sem, Nat.reduceAdd, Int.reduceAdd, Int.reduceSub, Int.reduceMul, Bool.not_true, Bool.not_false]) | refine WA_seq ?_ | refine WA_block ?_ | (refine WA_skip ?_; try simp only [go_sem]) | (refine WA_ret ?_; try simp only [go_sem]) | refine WA_ct rfl ?_ | refine WA_cf rfl ?_))
    refine WA_forP (fun k => [(5, sl (h.length + 1) 0 (8 * i + k) 1), (7, .int .i64 k), (8, J), (9, J), (10, J), (11, J), (17, J), (18, J), (19, J), (20, J), (21, J), (22, J), (23, J), (24, J), (25, J), (26, J), (27, J), (28, J), (29, J), (30, J), (31, J), (32, J), (33, J), (34, J), (35, J), (36, J), (37, J), (38, J), (39, J), (40, J), (41, J), (42, J), (43, J), (44, J), (45, J), (46, J), (47, J), (48, J), (49, J), (50, J), (51, J), (52, J), (53, J), (54, J), (55, J), (56, J)]) (fun k => [(1, ⟨Is (8 * i + k) (rowB m a), true⟩)]) (8) ?_ ?_ ?_ <;> (try simp only [patT_cons, patT_nil, patL_cons, patL_nil, list_set_zero, list_set_succ, blk_set_zero, blk_set_succ])
    · (refine Drop_slots (by first | exact Nat.le_refl _ | simp) ?_; focus ((try simp only [JL_same, JL_J, JL_nil, Int.reduceAdd, Nat.sub_sub, Int.natCast_add, Int.natCast_one, Int.natCast_zero, Int.cast_ofNat_Int, Nat.add_zero, Bool.false_eq_true, if_false, if_true]); (try exact JL_refl _)))
    · intro t ht
      (repeat (first | ((first | (refine And.intro ?_ ?_; focus (first | exact plain_agg (by simp only [go_sem]) | exact plain_two (by first | exact plain_agg (by simp only [go_sem]) | rfl) rfl | rfl)) | refine WA_seq (WA_region ?_) | refine WA_region ?_ | refine WA_exit ?_); try simp (maxSteps := 1000000) (disch := first | omega | rfl | decide | (simp only [List.length_cons, List.length_nil, List.length_append, Bs_length, Is_length, Vs_length, Bl_length, Il_length] <;> omega)) only [go_sem, Nat.reduceAdd, Int.reduceAdd, Int.reduceSub, Int.reduceMul, Bool.not_true, Bool.not_false]) | refine WA_seq ?_ | refine WA_block ?_ | (refine WA_skip ?_; try simp only [go_sem]) | (refine WA_ret ?_; try simp only [go_sem]) | refine WA_ct rfl ?_ | refine WA_cf rfl ?_))
      refine WA_forP (fun k => [(8, .int .i64 ((orP m a (8 * i + t) (8 * k) : Nat) : Int)), (9, .int .i64 k), (10, J), (11, J), (21, J), (22, J), (23, J), (24, J), (25, J), (26, J), (27, J), (28, J), (29, J), (30, J), (31, J), (32, J), (33, J), (34, J), (35, J), (36, J), (37, J), (38, J), (39, J), (40, J), (41, J), (42, J), (43, J), (44, J), (45, J), (46, J), (47, J), (48, J), (49, J), (50, J), (51, J), (52, J)]) (fun k => []) (4) ?_ ?_ ?_ <;> (try simp only [patT_cons, patT_nil, patL_cons, patL_nil, list_set_zero, list_set_succ, blk_set_zero, blk_set_succ])
      · (refine Drop_slots (by first | exact Nat.le_refl _ | simp) ?_; focus ((try simp only [JL_same, JL_J, JL_nil, Int.reduceAdd, Nat.sub_sub, Int.natCast_add, Int.natCast_one, Int.natCast_zero, Int.cast_ofNat_Int, Nat.add_zero, Bool.false_eq_true, if_false, if_true, show orP m a (8 * i + t) (8 * 0) = 0 from rfl]); (try exact JL_refl _)))
      · intro j hj
        (repeat (first | ((first | (refine And.intro ?_ ?_; focus (first | exact plain_agg (by simp only [go_sem]) | exact plain_two (by first | exact plain_agg (by simp only [go_sem]) | rfl) rfl | rfl)) | refine WA_seq (WA_region ?_) | refine WA_region ?_ | refine WA_exit ?_); try simp (maxSteps := 1000000) (disch := first | omega | rfl | decide | (simp only [List.length_cons, List.length_nil, List.length_append, Bs_length, Is_length, Vs_length, Bl_length, Il_length] <;> omega)) only [go_sem, Nat.reduceAdd, Int.reduceAdd, Int.reduceSub, Int.reduceMul, Bool.not_true, Bool.not_false]) | refine WA_seq ?_ | refine WA_block ?_ | (refine WA_skip ?_; try simp only [go_sem]) | (refine WA_ret ?_; try simp only [go_sem]) | refine WA_ct rfl ?_ | refine WA_cf rfl ?_))
        refine WA_forP (fun k => [(8, .int .i64 ((orP m a (8 * i + t) (8 * j + k) : Nat) : Int)), (10, .int .i64 k), (11, J), (25, J), (26, J), (27, J), (28, J), (29, J), (30, J), (31, J), (32, J), (33, J), (34, J), (35, J), (36, J), (37, J), (38, J), (39, J), (40, J), (41, J), (42, J), (43, J), (44, J), (45, J), (46, J), (47, J), (48, J), (49, J), (50, J), (51, J), (52, J)]) (fun k => []) (8) ?_ ?_ ?_ <;> (try simp only [patT_cons, patT_nil, patL_cons, patL_nil, list_set_zero, list_set_succ, blk_set_zero, blk_set_succ])
        · (refine Drop_slots (by first | exact Nat.le_refl _ | simp) ?_; focus ((try simp only [JL_same, JL_J, JL_nil, Int.reduceAdd, Nat.sub_sub, Int.natCast_add, Int.natCast_one, Int.natCast_zero, Int.cast_ofNat_Int, Nat.add_zero, Bool.false_eq_true, if_false, if_true]); (try exact JL_refl _)))
        · intro b hb
          have hq1 : (8 * i + t) / 8 = i := by omega
          have hq2 : (8 * i + t) % 8 = t := by omega
          have hc1 : (8 * j + b) / 8 = j := by omega
          have hc2 : (8 * j + b) % 8 = b := by omega
          have hbr : bitR m a (8 * i + t) (8 * j + b) = ((tm m (a (i * 4 + j)) (UInt8.ofNat (2 ^ b))).toNat >>> t) &&& 1 := by unfold bitR; rw [hq1, hq2, hc1, hc2]
          have hle := bitR_le m a (8 * i + t) (8 * j + b)
          have hor := orP_lt m a (8 * i + t) (8 * j + b)
          have hp : 2 ^ (8 * j + b) ≤ 2 ^ 32 := Nat.pow_le_pow_right (by omega) (by omega)
          have hsl : bitR m a (8 * i + t) (8 * j + b) <<< (8 * j + b) ≤ 4294967296 := by
            rw [Nat.shiftLeft_eq]
            exact Nat.le_trans (Nat.mul_le_mul hle hp) (by omega)
          have hw := wrap_N (n := bitR m a (8 * i + t) (8 * j + b) <<< (8 * j + b)) (by omega)
          have ho := bits_or_N (a := orP m a (8 * i + t) (8 * j + b)) (b := bitR m a (8 * i + t) (8 * j + b) <<< (8 * j + b)) (by omega) (by omega)
          rw [← show orP m a (8 * i + t) (8 * j + b + 1) = orP m a (8 * i + t) (8 * j + b) ||| bitR m a (8 * i + t) (8 * j + b) <<< (8 * j + b) from rfl] at ho
          rw [hbr] at hw ho
          (repeat (first | ((first | (refine And.intro ?_ ?_; focus (first | exact plain_agg (by simp only [go_sem]) | exact plain_two (by first | exact plain_agg (by simp only [go_sem]) | rfl) rfl | rfl)) | ((first | with_reducible apply callB_i | with_reducible apply callK_intro | with_reducible apply callQ_i); (focus (first | assumption | (with_reducible apply tmS_ac h0 h1 <;> (first | assumption | rfl | (simp (disch := omega) only [go_sem]; first | done | rfl) | omega | decide | (simp; done))))); (try (focus (refine WP.mk ?_ ?_; (focus ((repeat (first | exact trivial | (refine And.intro ?_ ?_; (focus first | exact plainV_wf rfl | (refine plainV_wf (plain_agg ?_); simp only [go_sem]; done) | (simp only [wfV, wf1, wfC, List.length_append, List.length_cons, List.length_nil]; omega))))))); (focus (first | rfl | (refine plain_agg ?_; simp only [go_sem]; done) | (refine plain_two ?_ ?_ <;> first | rfl | (refine plain_agg ?_; simp only [go_sem]; done)))))))) | refine WA_seq (WA_region ?_) | refine WA_region ?_ | refine WA_exit ?_); try simp (maxSteps := 1000000) (disch := first | omega | rfl | decide | (simp only [List.length_cons, List.length_nil, List.length_append, Bs_length, Is_length, Vs_length, Bl_length, Il_length] <;> omega)) only [go_sem, Nat.reduceAdd, Int.reduceAdd, Int.reduceSub, Int.reduceMul, Bool.not_true, Bool.not_false, abin_shl_B1 .u64 (show b ≤ 8 by omega), u8_bit, hw, ho]) | refine WA_seq ?_ | refine WA_block ?_ | (refine WA_skip ?_; try simp only [go_sem]) | (refine WA_ret ?_; try simp only [go_sem]) | refine WA_ct rfl ?_ | refine WA_cf rfl ?_))
          (refine Drop_slots (by first | exact Nat.le_refl _ | simp) ?_; focus ((try simp only [JL_same, JL_J, JL_nil, Int.reduceAdd, Nat.sub_sub, Int.natCast_add, Int.natCast_one, Int.natCast_zero, Int.cast_ofNat_Int, Nat.add_zero, Bool.false_eq_true, if_false, if_true, Nat.add_assoc]); (try exact JL_refl _)))
        · (repeat (first | ((first | (refine And.intro ?_ ?_; focus (first | exact plain_agg (by simp only [go_sem]) | exact plain_two (by first | exact plain_agg (by simp only [go_sem]) | rfl) rfl | rfl)) | refine WA_seq (WA_region ?_) | refine WA_region ?_ | refine WA_exit ?_); try simp (maxSteps := 1000000) (disch := first | omega | rfl | decide | (simp only [List.length_cons, List.length_nil, List.length_append, Bs_length, Is_length, Vs_length, Bl_length, Il_length] <;> omega)) only [go_sem, Nat.reduceAdd, Int.reduceAdd, Int.reduceSub, Int.reduceMul, Bool.not_true, Bool.not_false]) | refine WA_seq ?_ | refine WA_block ?_ | (refine WA_skip ?_; try simp only [go_sem]) | (refine WA_ret ?_; try simp only [go_sem]) | refine WA_ct rfl ?_ | refine WA_cf rfl ?_))
          rw [show 8 * (j + 1) = 8 * j + 8 by omega]
          (refine Drop_slots (by first | exact Nat.le_refl _ | simp) ?_; focus ((try simp only [JL_same, JL_J, JL_nil, Int.reduceAdd, Nat.sub_sub, Int.natCast_add, Int.natCast_one, Int.natCast_zero, Int.cast_ofNat_Int, Nat.add_zero, Bool.false_eq_true, if_false, if_true]); (try exact JL_refl _)))
      · (repeat (first | ((first | (refine And.intro ?_ ?_; focus (first | exact plain_agg (by simp only [go_sem]) | exact plain_two (by first | exact plain_agg (by simp only [go_sem]) | rfl) rfl | rfl)) | refine WA_seq (WA_region ?_) | refine WA_region ?_ | refine WA_exit ?_); try simp (maxSteps := 1000000) (disch := first | omega | rfl | decide | (simp only [List.length_cons, List.length_nil, List.length_append, Bs_length, Is_length, Vs_length, Bl_length, Il_length] <;> omega)) only [go_sem, Nat.reduceAdd, Int.reduceAdd, Int.reduceSub, Int.reduceMul, Bool.not_true, Bool.not_false, lit1I, sub1, show ((orP m a (8 * i + t) (8 * 4) : Nat) : Int) = rowB m a (8 * i + t) from rfl, Is_snocN]) | refine WA_seq ?_ | refine WA_block ?_ | (refine WA_skip ?_; try simp only [go_sem]) | (refine WA_ret ?_; try simp only [go_sem]) | refine WA_ct rfl ?_ | refine WA_cf rfl ?_))
        rw [← Nat.add_assoc]
        (refine Drop_gc [0, 3] (by first | exact Nat.le_refl _ | first | assumption | omega | (simp only [List.length_append, List.length_cons, List.length_nil, List.length_replicate]; omega)) (by assumption) (by decide) ?_ ?_; (focus (repeat (first | exact trivial | (refine And.intro ⟨_, rfl, ?_⟩ ?_; (focus first | (refine Fit_plain ?_; simp only [go_sem, List.all_append, List.all_cons, List.all_nil, Bool.and_self]; done) | exact Fit_nil rfl | exact Fit_dead | (refine Fit_eq ?_ ?_; (focus simp only [go_sem, List.all_append, List.all_cons, List.all_nil, Bool.and_self]); (focus (first | rfl | (simp only [Int.natCast_add, Int.natCast_one, Int.natCast_zero, Int.cast_ofNat_Int, Nat.add_zero, Nat.add_assoc]; done) | (simp only [Int.natCast_add, Int.natCast_one, Int.natCast_zero, Int.cast_ofNat_Int, Nat.add_zero, Nat.add_assoc]; rfl))))))))); (focus (repeat (first | exact JR_nil | refine JR_J ?_ | (refine JR_plain ?_ ?_; (focus first | rfl | (refine plain_agg ?_; simp only [go_sem, List.all_append, List.all_cons, List.all_nil, Bool.and_self]; done))) | ((first | refine JR_pt ?_ ?_ ?_ | refine JR_sl ?_ ?_ ?_); (focus first | (rw [rhoF_new0]; rfl) | (rw [rhoF_new]; rfl) | (rw [rhoF_old]; first | assumption | omega)); (focus first | assumption | omega | (simp only [List.length_append, List.length_cons, List.length_nil, List.length_replicate]; omega))) | (refine JR_plain' ?_ ?_ ?_; (focus first | rfl | (refine plain_agg ?_; simp only [go_sem, List.all_append, List.all_cons, List.all_nil, Bool.and_self]; done)); (focus (first | rfl | (simp only [Int.natCast_add, Int.natCast_one, Int.natCast_zero, Int.cast_ofNat_Int, Nat.add_zero, Nat.add_assoc]; done) | (simp only [Int.natCast_add, Int.natCast_one, Int.natCast_zero, Int.cast_ofNat_Int, Nat.add_zero, Nat.add_assoc]; rfl)))) | (refine JR_sl' ?_ ?_ ?_ ?_; (focus first | (rw [rhoF_new0]; rfl) | (rw [rhoF_new]; rfl) | (rw [rhoF_old]; first | assumption | omega)); (focus first | assumption | omega | (simp only [List.length_append, List.length_cons, List.length_nil, List.length_replicate]; omega)); (focus first | rfl | omega | (first | rfl | (simp only [Int.natCast_add, Int.natCast_one, Int.natCast_zero, Int.cast_ofNat_Int, Nat.add_zero, Nat.add_assoc]; done) | (simp only [Int.natCast_add, Int.natCast_one, Int.natCast_zero, Int.cast_ofNat_Int, Nat.add_zero, Nat.add_assoc]; rfl))))))))
    · (repeat (first | ((first | (refine And.intro ?_ ?_; focus (first | exact plain_agg (by simp only [go_sem]) | exact plain_two (by first | exact plain_agg (by simp only [go_sem]) | rfl) rfl | rfl)) | refine WA_seq (WA_region ?_) | refine WA_region ?_ | refine WA_exit ?_); try simp (maxSteps := 1000000) (disch := first | omega | rfl | decide | (simp only [List.length_cons, List.length_nil, List.length_append, Bs_length, Is_length, Vs_length, Bl_length, Il_length] <;> omega)) only [go_sem, Nat.reduceAdd, Int.reduceAdd, Int.reduceSub, Int.reduceMul, Bool.not_true, Bool.not_false]) | refine WA_seq ?_ | refine WA_block ?_ | (refine WA_skip ?_; try simp only [go_sem]) | (refine WA_ret ?_; try simp only [go_sem]) | refine WA_ct rfl ?_ | refine WA_cf rfl ?_))
      rw [show 8 * (i + 1) = 8 * i + 8 by omega]
      (refine Drop_slots (by first | exact Nat.le_refl _ | simp) ?_; focus ((try simp only [JL_same, JL_J, JL_nil, Int.reduceAdd, Nat.sub_sub, Int.natCast_add, Int.natCast_one, Int.natCast_zero, Int.cast_ofNat_Int, Nat.add_zero, Bool.false_eq_true, if_false, if_true]); (try exact JL_refl _)))
  · (repeat (first | ((first | (refine And.intro ?_ ?_; focus (first | exact plain_agg (by simp only [go_sem]) | exact plain_two (by first | exact plain_agg (by simp only [go_sem]) | rfl) rfl | rfl)) | refine WA_seq (WA_region ?_) | refine WA_region ?_ | refine WA_exit ?_); try simp (maxSteps := 1000000) (disch := first | omega | rfl | decide | (simp only [List.length_cons, List.length_nil, List.length_append, Bs_length, Is_length, Vs_length, Bl_length, Il_length] <;> omega)) only [go_sem, Nat.reduceAdd, Int.reduceAdd, Int.reduceSub, Int.reduceMul, Bool.not_true, Bool.not_false]) | refine WA_seq ?_ | refine WA_block ?_ | (refine WA_skip ?_; try simp only [go_sem]) | (refine WA_ret ?_; try simp only [go_sem]) | refine WA_ct rfl ?_ | refine WA_cf rfl ?_))
    ((first | refine ret_none (by first | exact .inr rfl | exact .inl rfl) ?_ | refine ret_same (by first | exact .inr rfl | exact .inl rfl) ?_ (by first | rfl | exact plain_agg (by simp only [go_sem]) | exact plain_two (by first | exact plain_agg (by simp only [go_sem]) | rfl) (by first | exact plain_agg (by simp only [go_sem]) | rfl)) | refine ret_full (by first | exact .inr rfl | exact .inl rfl) (by simp) ?_); simp (maxSteps := 1000000) (disch := first | omega | rfl | decide | (simp only [List.length_cons, List.length_nil, List.length_append, Bs_length, Is_length, Vs_length, Bl_length, Il_length] <;> omega)) only [go_sem, Nat.reduceAdd, Int.reduceAdd, Int.reduceSub, Int.reduceMul, Bool.not_true, Bool.not_false]; try rfl)

/-- The bits of a matrix, as returned. -/
inductive BtV (m : Int) (a : Nat → UInt8) (h : List Blk) : Value → Prop
  | no (hf : fieldB m.toNat = false) : BtV m a h (.slice none 0 0)
  | ok (hf : fieldB m.toNat = true) {b : Nat} {r : Bool} (hb : h[b]? = some ⟨Is 32 (rowB m.toNat a), r⟩) : BtV m a h (sl b 0 32 1)
theorem BtV.app {m : Int} {a : Nat → UInt8} {h : List Blk} {v : Value} (c : BtV m a h v) (L : List Blk) : BtV m a (h ++ L) v := by
  cases c with
  | no hf => exact .no hf
  | ok hf hb => exact .ok hf (look_old hb L)
theorem bitS_op (m : Int) (a : Nat → UInt8) (h : List Blk) : ∃ (v : Value) (H : List Blk), (∃ A, H = h ++ A) ∧ BtV m a H v ∧ AC Try.prog 80 [.int .i64 m, .agg (Bs 16 a).toArray] h (.tuple #[v, .int .i64 (fcN m)]) H := by
  cases hf : fieldB m.toNat
  · refine ⟨.slice none 0 0, h, ⟨[], (List.append_nil h).symm⟩, .no hf, ?_⟩
    rw [show fcN m = 1 by unfold fcN; rw [hf]; rfl]
    (refine AC_begin (fun _ _ => Try.call80 _ _) Try.func80 rfl Try.ntmps80 Try.results80 (fun hwf => ?_); simp only [List.length_cons, List.length_nil, Nat.reduceAdd, Nat.reduceSub, List.replicate, List.cons_append, List.nil_append])
    (repeat (first | ((first | (refine And.intro ?_ ?_; focus (first | exact plain_agg (by simp only [go_sem]) | exact plain_two (by first | exact plain_agg (by simp only [go_sem]) | rfl) rfl | rfl)) | ((first | with_reducible apply callB_i | with_reducible apply callK_intro | with_reducible apply callQ_i); (focus (first | assumption | (with_reducible apply fieldS_ac <;> (first | assumption | rfl | (simp (disch := omega) only [go_sem]; first | done | rfl) | omega | decide | (simp; done))))); (try (focus (refine WP.mk ?_ ?_; (focus ((repeat (first | exact trivial | (refine And.intro ?_ ?_; (focus first | exact plainV_wf rfl | (refine plainV_wf (plain_agg ?_); simp only [go_sem]; done) | (simp only [wfV, wf1, wfC, List.length_append, List.length_cons, List.length_nil]; omega))))))); (focus (first | rfl | (refine plain_agg ?_; simp only [go_sem]; done) | (refine plain_two ?_ ?_ <;> first | rfl | (refine plain_agg ?_; simp only [go_sem]; done)))))))) | refine WA_seq (WA_region ?_) | refine WA_region ?_ | refine WA_exit ?_); try simp (maxSteps := 1000000) (disch := first | omega | rfl | decide | (simp only [List.length_cons, List.length_nil, List.length_append, Bs_length, Is_length, Vs_length, Bl_length, Il_length] <;> omega)) only [go_sem, Nat.reduceAdd, Int.reduceAdd, Int.reduceSub, Int.reduceMul, Bool.not_true, Bool.not_false, hf, Bool.not_false]) | refine WA_seq ?_ | refine WA_block ?_ | (refine WA_skip ?_; try simp only [go_sem]) | (refine WA_ret ?_; try simp only [go_sem]) | refine WA_ct rfl ?_ | refine WA_cf rfl ?_))
    ((first | refine ret_none (by first | exact .inr rfl | exact .inl rfl) ?_ | refine ret_same (by first | exact .inr rfl | exact .inl rfl) ?_ (by first | rfl | exact plain_agg (by simp only [go_sem]) | exact plain_two (by first | exact plain_agg (by simp only [go_sem]) | rfl) (by first | exact plain_agg (by simp only [go_sem]) | rfl)) | refine ret_full (by first | exact .inr rfl | exact .inl rfl) (by simp) ?_); simp (maxSteps := 1000000) (disch := first | omega | rfl | decide | (simp only [List.length_cons, List.length_nil, List.length_append, Bs_length, Is_length, Vs_length, Bl_length, Il_length] <;> omega)) only [go_sem, Nat.reduceAdd, Int.reduceAdd, Int.reduceSub, Int.reduceMul, Bool.not_true, Bool.not_false]; try rfl)
  · refine ⟨sl (h.length + 2) 0 32 1, h ++ [⟨Bs 16 a, true⟩, ⟨Bs 16 a, true⟩, ⟨Is 32 (rowB m.toNat a), true⟩], ⟨_, rfl⟩, .ok hf (r := true) (by simp), ?_⟩
    obtain ⟨n, rfl, hn, h0, h1⟩ := fieldB_nat hf
    rw [show fcN (n : Int) = 0 from fcN_is hn]
    (refine AC_begin (fun _ _ => Try.call80 _ _) Try.func80 rfl Try.ntmps80 Try.results80 (fun hwf => ?_); simp only [List.length_cons, List.length_nil, Nat.reduceAdd, Nat.reduceSub, List.replicate, List.cons_append, List.nil_append])
    (repeat (first | ((first | (refine And.intro ?_ ?_; focus (first | exact plain_agg (by simp only [go_sem]) | exact plain_two (by first | exact plain_agg (by simp only [go_sem]) | rfl) rfl | rfl)) | ((first | with_reducible apply callB_i | with_reducible apply callK_intro | with_reducible apply callQ_i); (focus (first | assumption | ((first | with_reducible apply fieldS_ac | with_reducible apply bitsL_ac h0 h1) <;> (first | assumption | rfl | (simp (disch := omega) only [go_sem]; first | done | rfl) | omega | decide | (simp; done))))); (try (focus (refine WP.mk ?_ ?_; (focus ((repeat (first | exact trivial | (refine And.intro ?_ ?_; (focus first | exact plainV_wf rfl | (refine plainV_wf (plain_agg ?_); simp only [go_sem]; done) | (simp only [wfV, wf1, wfC, List.length_append, List.length_cons, List.length_nil]; omega))))))); (focus (first | rfl | (refine plain_agg ?_; simp only [go_sem]; done) | (refine plain_two ?_ ?_ <;> first | rfl | (refine plain_agg ?_; simp only [go_sem]; done)))))))) | refine WA_seq (WA_region ?_) | refine WA_region ?_ | refine WA_exit ?_); try simp (maxSteps := 1000000) (disch := first | omega | rfl | decide | (simp only [List.length_cons, List.length_nil, List.length_append, Bs_length, Is_length, Vs_length, Bl_length, Il_length] <;> omega)) only [go_sem, Nat.reduceAdd, Int.reduceAdd, Int.reduceSub, Int.reduceMul, Bool.not_true, Bool.not_false, hn, Bool.not_true, Int.toNat_natCast]) | refine WA_seq ?_ | refine WA_block ?_ | (refine WA_skip ?_; try simp only [go_sem]) | (refine WA_ret ?_; try simp only [go_sem]) | refine WA_ct rfl ?_ | refine WA_cf rfl ?_))
    ((first | refine ret_none (by first | exact .inr rfl | exact .inl rfl) ?_ | refine ret_same (by first | exact .inr rfl | exact .inl rfl) ?_ (by first | rfl | exact plain_agg (by simp only [go_sem]) | exact plain_two (by first | exact plain_agg (by simp only [go_sem]) | rfl) (by first | exact plain_agg (by simp only [go_sem]) | rfl)) | refine ret_full (by first | exact .inr rfl | exact .inl rfl) (by simp) ?_); simp (maxSteps := 1000000) (disch := first | omega | rfl | decide | (simp only [List.length_cons, List.length_nil, List.length_append, Bs_length, Is_length, Vs_length, Bl_length, Il_length] <;> omega)) only [go_sem, Nat.reduceAdd, Int.reduceAdd, Int.reduceSub, Int.reduceMul, Bool.not_true, Bool.not_false, Int.toNat_natCast]; try rfl)

theorem bitI_op (m : Int) (a : Nat → UInt8) (h : List Blk) : ∃ (v : Value) (H : List Blk), (∃ A, H = h ++ A) ∧ BtV m a H v ∧ AC Try.prog 79 [.int .i64 m, .agg (Bs 16 a).toArray] h (.tuple #[v, .int .i64 (fcN m)]) H := by
  cases hf : fieldB m.toNat
  · refine ⟨.slice none 0 0, h, ⟨[], (List.append_nil h).symm⟩, .no hf, ?_⟩
    rw [show fcN m = 1 by unfold fcN; rw [hf]; rfl]
    (refine AC_begin (fun _ _ => Try.call79 _ _) Try.func79 rfl Try.ntmps79 Try.results79 (fun hwf => ?_); simp only [List.length_cons, List.length_nil, Nat.reduceAdd, Nat.reduceSub, List.replicate, List.cons_append, List.nil_append])
    (repeat (first | ((first | (refine And.intro ?_ ?_; focus (first | exact plain_agg (by simp only [go_sem]) | exact plain_two (by first | exact plain_agg (by simp only [go_sem]) | rfl) rfl | rfl)) | ((first | with_reducible apply callB_i | with_reducible apply callK_intro | with_reducible apply callQ_i); (focus (first | assumption | (with_reducible apply isField_ac <;> (first | assumption | rfl | (simp (disch := omega) only [go_sem]; first | done | rfl) | omega | decide | (simp; done))))); (try (focus (refine WP.mk ?_ ?_; (focus ((repeat (first | exact trivial | (refine And.intro ?_ ?_; (focus first | exact plainV_wf rfl | (refine plainV_wf (plain_agg ?_); simp only [go_sem]; done) | (simp only [wfV, wf1, wfC, List.length_append, List.length_cons, List.length_nil]; omega))))))); (focus (first | rfl | (refine plain_agg ?_; simp only [go_sem]; done) | (refine plain_two ?_ ?_ <;> first | rfl | (refine plain_agg ?_; simp only [go_sem]; done)))))))) | refine WA_seq (WA_region ?_) | refine WA_region ?_ | refine WA_exit ?_); try simp (maxSteps := 1000000) (disch := first | omega | rfl | decide | (simp only [List.length_cons, List.length_nil, List.length_append, Bs_length, Is_length, Vs_length, Bl_length, Il_length] <;> omega)) only [go_sem, Nat.reduceAdd, Int.reduceAdd, Int.reduceSub, Int.reduceMul, Bool.not_true, Bool.not_false, hf, Bool.not_false]) | refine WA_seq ?_ | refine WA_block ?_ | (refine WA_skip ?_; try simp only [go_sem]) | (refine WA_ret ?_; try simp only [go_sem]) | refine WA_ct rfl ?_ | refine WA_cf rfl ?_))
    ((first | refine ret_none (by first | exact .inr rfl | exact .inl rfl) ?_ | refine ret_same (by first | exact .inr rfl | exact .inl rfl) ?_ (by first | rfl | exact plain_agg (by simp only [go_sem]) | exact plain_two (by first | exact plain_agg (by simp only [go_sem]) | rfl) (by first | exact plain_agg (by simp only [go_sem]) | rfl)) | refine ret_full (by first | exact .inr rfl | exact .inl rfl) (by simp) ?_); simp (maxSteps := 1000000) (disch := first | omega | rfl | decide | (simp only [List.length_cons, List.length_nil, List.length_append, Bs_length, Is_length, Vs_length, Bl_length, Il_length] <;> omega)) only [go_sem, Nat.reduceAdd, Int.reduceAdd, Int.reduceSub, Int.reduceMul, Bool.not_true, Bool.not_false]; try rfl)
  · refine ⟨sl (h.length + 1) 0 32 1, h ++ [⟨Bs 16 a, true⟩, ⟨Is 32 (rowB m.toNat a), true⟩], ⟨_, rfl⟩, .ok hf (r := true) (by simp), ?_⟩
    obtain ⟨n, rfl, hn, h0, h1⟩ := fieldB_nat hf
    rw [show fcN (n : Int) = 0 from fcN_is hn, Int.toNat_natCast]
    (refine AC_begin (fun _ _ => Try.call79 _ _) Try.func79 rfl Try.ntmps79 Try.results79 (fun hwf => ?_); simp only [List.length_cons, List.length_nil, Nat.reduceAdd, Nat.reduceSub, List.replicate, List.cons_append, List.nil_append])
    (repeat (first | ((first | (refine And.intro ?_ ?_; focus (first | exact plain_agg (by simp only [go_sem]) | exact plain_two (by first | exact plain_agg (by simp only [go_sem]) | rfl) rfl | rfl)) | ((first | with_reducible apply callB_i | with_reducible apply callK_intro | with_reducible apply callQ_i); (focus (first | assumption | (with_reducible apply isField_ac <;> (first | assumption | rfl | (simp (disch := omega) only [go_sem]; first | done | rfl) | omega | decide | (simp; done))))); (try (focus (refine WP.mk ?_ ?_; (focus ((repeat (first | exact trivial | (refine And.intro ?_ ?_; (focus first | exact plainV_wf rfl | (refine plainV_wf (plain_agg ?_); simp only [go_sem]; done) | (simp only [wfV, wf1, wfC, List.length_append, List.length_cons, List.length_nil]; omega))))))); (focus (first | rfl | (refine plain_agg ?_; simp only [go_sem]; done) | (refine plain_two ?_ ?_ <;> first | rfl | (refine plain_agg ?_; simp only [go_sem]; done)))))))) | refine WA_seq (WA_region ?_) | refine WA_region ?_ | refine WA_exit ?_); try simp (maxSteps := 1000000) (disch := first | omega | rfl | decide | (simp only [List.length_cons, List.length_nil, List.length_append, Bs_length, Is_length, Vs_length, Bl_length, Il_length] <;> omega)) only [go_sem, Nat.reduceAdd, Int.reduceAdd, Int.reduceSub, Int.reduceMul, Bool.not_true, Bool.not_false, hn, Bool.not_true]) | refine WA_seq ?_ | refine WA_block ?_ | (refine WA_skip ?_; try simp only [go_sem]) | (refine WA_ret ?_; try simp only [go_sem]) | refine WA_ct rfl ?_ | refine WA_cf rfl ?_))
    refine WA_forP (fun k => [(7, J), (8, J), (9, J), (10, J), (11, J), (12, J), (17, .int .i64 k), (18, J), (19, J), (20, J), (21, J), (22, J), (23, J), (24, J), (25, J), (26, J), (27, J), (28, J), (29, J), (30, J), (31, J), (32, J), (33, J), (34, J), (35, J), (36, J), (37, J), (38, J), (39, J), (40, J), (41, J), (42, J), (43, J), (44, J), (45, J), (46, J), (47, J), (48, J), (49, J), (50, J), (51, J), (52, J), (53, J), (54, J), (55, J), (56, J), (57, J), (58, J), (59, J), (60, J)]) (fun k => [(1, ⟨Is 32 (rowC n a k 0 0), true⟩)]) (4) ?_ ?_ ?_ <;> (try simp only [patT_cons, patT_nil, patL_cons, patL_nil, list_set_zero, list_set_succ, blk_set_zero, blk_set_succ])
    · rw [rowC_zero]
      (refine Drop_slots (by first | exact Nat.le_refl _ | simp) ?_; focus ((try simp only [JL_same, JL_J, JL_nil, Int.reduceAdd, Nat.sub_sub, Int.natCast_add, Int.natCast_one, Int.natCast_zero, Int.cast_ofNat_Int, Nat.add_zero, Bool.false_eq_true, if_false, if_true]); (try exact JL_refl _)))
    · intro i hi
      (repeat (first | ((first | (refine And.intro ?_ ?_; focus (first | exact plain_agg (by simp only [go_sem]) | exact plain_two (by first | exact plain_agg (by simp only [go_sem]) | rfl) rfl | rfl)) | refine WA_seq (WA_region ?_) | refine WA_region ?_ | refine WA_exit ?_); try simp (maxSteps := 1000000) (disch := first | omega | rfl | decide | (simp only [List.length_cons, List.length_nil, List.length_append, Bs_length, Is_length, Vs_length, Bl_length, Il_length] <;> omega)) only [go_sem, Nat.reduceAdd, Int.reduceAdd, Int.reduceSub, Int.reduceMul, Bool.not_true, Bool.not_false]) | refine WA_seq ?_ | refine WA_block ?_ | (refine WA_skip ?_; try simp only [go_sem]) | (refine WA_ret ?_; try simp only [go_sem]) | refine WA_ct rfl ?_ | refine WA_cf rfl ?_))
      refine WA_forP (fun k => [(8, J), (9, J), (10, J), (11, J), (12, J), (23, .int .i64 k), (24, J), (25, J), (26, J), (27, J), (28, J), (29, J), (30, J), (31, J), (32, J), (33, J), (34, J), (35, J), (36, J), (37, J), (38, J), (39, J), (40, J), (41, J), (42, J), (43, J), (44, J), (45, J), (46, J), (47, J), (48, J), (49, J), (50, J), (51, J), (52, J), (53, J), (54, J), (55, J), (56, J), (57, J), (58, J), (59, J)]) (fun k => [(1, ⟨Is 32 (rowC n a i (8 * k) 0), true⟩)]) (4) ?_ ?_ ?_ <;> (try simp only [patT_cons, patT_nil, patL_cons, patL_nil, list_set_zero, list_set_succ, blk_set_zero, blk_set_succ])
      · (refine Drop_slots (by first | exact Nat.le_refl _ | simp) ?_; focus ((try simp only [JL_same, JL_J, JL_nil, Int.reduceAdd, Nat.sub_sub, Int.natCast_add, Int.natCast_one, Int.natCast_zero, Int.cast_ofNat_Int, Nat.add_zero, Bool.false_eq_true, if_false, if_true]); (try exact JL_refl _)))
      · intro j hj
        (repeat (first | ((first | (refine And.intro ?_ ?_; focus (first | exact plain_agg (by simp only [go_sem]) | exact plain_two (by first | exact plain_agg (by simp only [go_sem]) | rfl) rfl | rfl)) | refine WA_seq (WA_region ?_) | refine WA_region ?_ | refine WA_exit ?_); try simp (maxSteps := 1000000) (disch := first | omega | rfl | decide | (simp only [List.length_cons, List.length_nil, List.length_append, Bs_length, Is_length, Vs_length, Bl_length, Il_length] <;> omega)) only [go_sem, Nat.reduceAdd, Int.reduceAdd, Int.reduceSub, Int.reduceMul, Bool.not_true, Bool.not_false]) | refine WA_seq ?_ | refine WA_block ?_ | (refine WA_skip ?_; try simp only [go_sem]) | (refine WA_ret ?_; try simp only [go_sem]) | refine WA_ct rfl ?_ | refine WA_cf rfl ?_))
        refine WA_forP (fun k => [(10, J), (11, J), (12, J), (27, .int .i64 k), (28, J), (29, J), (30, J), (31, J), (32, J), (33, J), (34, J), (35, J), (36, J), (37, J), (38, J), (39, J), (40, J), (41, J), (42, J), (43, J), (44, J), (45, J), (46, J), (47, J), (48, J), (49, J), (50, J), (51, J), (52, J), (53, J), (54, J), (55, J), (56, J), (57, J), (58, J)]) (fun k => [(1, ⟨Is 32 (rowC n a i (8 * j + k) 0), true⟩)]) (8) ?_ ?_ ?_ <;> (try simp only [patT_cons, patT_nil, patL_cons, patL_nil, list_set_zero, list_set_succ, blk_set_zero, blk_set_succ])
        · (refine Drop_slots (by first | exact Nat.le_refl _ | simp) ?_; focus ((try simp only [JL_same, JL_J, JL_nil, Int.reduceAdd, Nat.sub_sub, Int.natCast_add, Int.natCast_one, Int.natCast_zero, Int.cast_ofNat_Int, Nat.add_zero, Bool.false_eq_true, if_false, if_true]); (try exact JL_refl _)))
        · intro b hb
          (repeat (first | ((first | (refine And.intro ?_ ?_; focus (first | exact plain_agg (by simp only [go_sem]) | exact plain_two (by first | exact plain_agg (by simp only [go_sem]) | rfl) rfl | rfl)) | ((first | with_reducible apply callB_i | with_reducible apply callK_intro | with_reducible apply callQ_i); (focus (first | assumption | (with_reducible apply tmI_ac h0 h1 <;> (first | assumption | rfl | (simp (disch := omega) only [go_sem]; first | done | rfl) | omega | decide | (simp; done))))); (try (focus (refine WP.mk ?_ ?_; (focus ((repeat (first | exact trivial | (refine And.intro ?_ ?_; (focus first | exact plainV_wf rfl | (refine plainV_wf (plain_agg ?_); simp only [go_sem]; done) | (simp only [wfV, wf1, wfC, List.length_append, List.length_cons, List.length_nil]; omega))))))); (focus (first | rfl | (refine plain_agg ?_; simp only [go_sem]; done) | (refine plain_two ?_ ?_ <;> first | rfl | (refine plain_agg ?_; simp only [go_sem]; done)))))))) | refine WA_seq (WA_region ?_) | refine WA_region ?_ | refine WA_exit ?_); try simp (maxSteps := 1000000) (disch := first | omega | rfl | decide | (simp only [List.length_cons, List.length_nil, List.length_append, Bs_length, Is_length, Vs_length, Bl_length, Il_length] <;> omega)) only [go_sem, Nat.reduceAdd, Int.reduceAdd, Int.reduceSub, Int.reduceMul, Bool.not_true, Bool.not_false, abin_shl_B1 .i64 (show b ≤ 8 by omega)]) | refine WA_seq ?_ | refine WA_block ?_ | (refine WA_skip ?_; try simp only [go_sem]) | (refine WA_ret ?_; try simp only [go_sem]) | refine WA_ct rfl ?_ | refine WA_cf rfl ?_))
          refine WA_forP (fun k => [(12, J), (35, .int .i64 k), (36, J), (37, J), (38, J), (39, J), (40, J), (41, J), (42, J), (43, J), (44, J), (45, J), (46, J), (47, J), (48, J), (49, J), (50, J), (51, J), (52, J), (53, J), (54, J), (55, J), (56, J), (57, J)]) (fun k => [(1, ⟨Is 32 (rowC n a i (8 * j + b) k), true⟩)]) (8) ?_ ?_ ?_ <;> (try simp only [patT_cons, patT_nil, patL_cons, patL_nil, list_set_zero, list_set_succ, blk_set_zero, blk_set_succ])
          · (refine Drop_slots (by first | exact Nat.le_refl _ | simp) ?_; focus ((try simp only [JL_same, JL_J, JL_nil, Int.reduceAdd, Nat.sub_sub, Int.natCast_add, Int.natCast_one, Int.natCast_zero, Int.cast_ofNat_Int, Nat.add_zero, Bool.false_eq_true, if_false, if_true]); (try exact JL_refl _)))
          · intro t ht
            have hq1 : (8 * i + t) / 8 = i := by omega
            have hq2 : (8 * i + t) % 8 = t := by omega
            have hc1 : (8 * j + b) / 8 = j := by omega
            have hc2 : (8 * j + b) % 8 = b := by omega
            have hbr : bitR n a (8 * i + t) (8 * j + b) = ((tm n (a (i * 4 + j)) (UInt8.ofNat (2 ^ b))).toNat >>> t) &&& 1 := by unfold bitR; rw [hq1, hq2, hc1, hc2]
            have hle := bitR_le n a (8 * i + t) (8 * j + b)
            have hor := orP_lt n a (8 * i + t) (8 * j + b)
            have hp : 2 ^ (8 * j + b) ≤ 2 ^ 32 := Nat.pow_le_pow_right (by omega) (by omega)
            have hsl : bitR n a (8 * i + t) (8 * j + b) <<< (8 * j + b) ≤ 4294967296 := by
              rw [Nat.shiftLeft_eq]
              exact Nat.le_trans (Nat.mul_le_mul hle hp) (by omega)
            have hw := wrap_N (n := bitR n a (8 * i + t) (8 * j + b) <<< (8 * j + b)) (by omega)
            have ho := bits_or_N (a := orP n a (8 * i + t) (8 * j + b)) (b := bitR n a (8 * i + t) (8 * j + b) <<< (8 * j + b)) (by omega) (by omega)
            rw [← show orP n a (8 * i + t) (8 * j + b + 1) = orP n a (8 * i + t) (8 * j + b) ||| bitR n a (8 * i + t) (8 * j + b) <<< (8 * j + b) from rfl] at ho
            rw [hbr] at hw ho
            (repeat (first | ((first | (refine And.intro ?_ ?_; focus (first | exact plain_agg (by simp only [go_sem]) | exact plain_two (by first | exact plain_agg (by simp only [go_sem]) | rfl) rfl | rfl)) | refine WA_seq (WA_region ?_) | refine WA_region ?_ | refine WA_exit ?_); try simp (maxSteps := 1000000) (disch := first | omega | rfl | decide | (simp only [List.length_cons, List.length_nil, List.length_append, Bs_length, Is_length, Vs_length, Bl_length, Il_length] <;> omega)) only [go_sem, Nat.reduceAdd, Int.reduceAdd, Int.reduceSub, Int.reduceMul, Bool.not_true, Bool.not_false, rowC_at ht, u8_bit, hw, ho, rowC_set ht]) | (refine (WA_rb (id := 17) [19] (SubM.refl _) mixedOk ?_); simp only [List.size_toArray, List.length_cons, List.length_nil]; (repeat (first | ((first | (refine And.intro ?_ ?_; focus (first | exact plain_agg (by simp only [go_sem]) | exact plain_two (by first | exact plain_agg (by simp only [go_sem]) | rfl) rfl | rfl)) | refine RB_take false [0, 1, 2, 3, 4, 5, 7, 8, 9, 10, 11, 12, 13, 14, 15, 16] 4 (by rfl) (by kernel_rfl) (by decide) (by decide +kernel) ?_ | refine RB_take true [6] 3 (by rfl) (by kernel_rfl) (by decide) (by decide +kernel) ?_ | refine RB_take false [17, 18] 1 (by rfl) (by kernel_rfl) (by decide) (by decide +kernel) ?_ | refine RB_exec 19 _ (by rfl) (by decide +kernel) (by decide +kernel) ?_ | refine RB_done (by decide +kernel) ?_); try simp (maxSteps := 1000000) (disch := first | omega | rfl | decide | (simp only [List.length_cons, List.length_nil, List.length_append, Bs_length, Is_length, Vs_length, Bl_length, Il_length] <;> omega)) only [go_sem, Nat.reduceAdd, Int.reduceAdd, Int.reduceSub, Int.reduceMul, Bool.not_true, Bool.not_false, rowC_at ht, u8_bit, hw, ho, rowC_set ht])))) | refine WA_seq ?_ | refine WA_block ?_ | (refine WA_skip ?_; try simp only [go_sem]) | (refine WA_ret ?_; try simp only [go_sem]) | refine WA_ct rfl ?_ | refine WA_cf rfl ?_))
            all_goals (refine Drop_slots (by first | exact Nat.le_refl _ | simp) ?_; focus ((try simp only [JL_same, JL_J, JL_nil, Int.reduceAdd, Nat.sub_sub, Int.natCast_add, Int.natCast_one, Int.natCast_zero, Int.cast_ofNat_Int, Nat.add_zero, Bool.false_eq_true, if_false, if_true]); (try exact JL_refl _)))
          · (repeat (first | ((first | (refine And.intro ?_ ?_; focus (first | exact plain_agg (by simp only [go_sem]) | exact plain_two (by first | exact plain_agg (by simp only [go_sem]) | rfl) rfl | rfl)) | refine WA_seq (WA_region ?_) | refine WA_region ?_ | refine WA_exit ?_); try simp (maxSteps := 1000000) (disch := first | omega | rfl | decide | (simp only [List.length_cons, List.length_nil, List.length_append, Bs_length, Is_length, Vs_length, Bl_length, Il_length] <;> omega)) only [go_sem, Nat.reduceAdd, Int.reduceAdd, Int.reduceSub, Int.reduceMul, Bool.not_true, Bool.not_false]) | refine WA_seq ?_ | refine WA_block ?_ | (refine WA_skip ?_; try simp only [go_sem]) | (refine WA_ret ?_; try simp only [go_sem]) | refine WA_ct rfl ?_ | refine WA_cf rfl ?_))
            rw [rowC_next]
            (refine Drop_slots (by first | exact Nat.le_refl _ | simp) ?_; focus ((try simp only [JL_same, JL_J, JL_nil, Int.reduceAdd, Nat.sub_sub, Int.natCast_add, Int.natCast_one, Int.natCast_zero, Int.cast_ofNat_Int, Nat.add_zero, Bool.false_eq_true, if_false, if_true, Nat.add_assoc]); (try exact JL_refl _)))
        · (repeat (first | ((first | (refine And.intro ?_ ?_; focus (first | exact plain_agg (by simp only [go_sem]) | exact plain_two (by first | exact plain_agg (by simp only [go_sem]) | rfl) rfl | rfl)) | refine WA_seq (WA_region ?_) | refine WA_region ?_ | refine WA_exit ?_); try simp (maxSteps := 1000000) (disch := first | omega | rfl | decide | (simp only [List.length_cons, List.length_nil, List.length_append, Bs_length, Is_length, Vs_length, Bl_length, Il_length] <;> omega)) only [go_sem, Nat.reduceAdd, Int.reduceAdd, Int.reduceSub, Int.reduceMul, Bool.not_true, Bool.not_false]) | refine WA_seq ?_ | refine WA_block ?_ | (refine WA_skip ?_; try simp only [go_sem]) | (refine WA_ret ?_; try simp only [go_sem]) | refine WA_ct rfl ?_ | refine WA_cf rfl ?_))
          rw [show 8 * (j + 1) = 8 * j + 8 by omega]
          (refine Drop_slots (by first | exact Nat.le_refl _ | simp) ?_; focus ((try simp only [JL_same, JL_J, JL_nil, Int.reduceAdd, Nat.sub_sub, Int.natCast_add, Int.natCast_one, Int.natCast_zero, Int.cast_ofNat_Int, Nat.add_zero, Bool.false_eq_true, if_false, if_true]); (try exact JL_refl _)))
      · (repeat (first | ((first | (refine And.intro ?_ ?_; focus (first | exact plain_agg (by simp only [go_sem]) | exact plain_two (by first | exact plain_agg (by simp only [go_sem]) | rfl) rfl | rfl)) | refine WA_seq (WA_region ?_) | refine WA_region ?_ | refine WA_exit ?_); try simp (maxSteps := 1000000) (disch := first | omega | rfl | decide | (simp only [List.length_cons, List.length_nil, List.length_append, Bs_length, Is_length, Vs_length, Bl_length, Il_length] <;> omega)) only [go_sem, Nat.reduceAdd, Int.reduceAdd, Int.reduceSub, Int.reduceMul, Bool.not_true, Bool.not_false]) | refine WA_seq ?_ | refine WA_block ?_ | (refine WA_skip ?_; try simp only [go_sem]) | (refine WA_ret ?_; try simp only [go_sem]) | refine WA_ct rfl ?_ | refine WA_cf rfl ?_))
        rw [show 8 * 4 = 32 from rfl, rowC_row]
        (refine Drop_slots (by first | exact Nat.le_refl _ | simp) ?_; focus ((try simp only [JL_same, JL_J, JL_nil, Int.reduceAdd, Nat.sub_sub, Int.natCast_add, Int.natCast_one, Int.natCast_zero, Int.cast_ofNat_Int, Nat.add_zero, Bool.false_eq_true, if_false, if_true]); (try exact JL_refl _)))
    · (repeat (first | ((first | (refine And.intro ?_ ?_; focus (first | exact plain_agg (by simp only [go_sem]) | exact plain_two (by first | exact plain_agg (by simp only [go_sem]) | rfl) rfl | rfl)) | refine WA_seq (WA_region ?_) | refine WA_region ?_ | refine WA_exit ?_); try simp (maxSteps := 1000000) (disch := first | omega | rfl | decide | (simp only [List.length_cons, List.length_nil, List.length_append, Bs_length, Is_length, Vs_length, Bl_length, Il_length] <;> omega)) only [go_sem, Nat.reduceAdd, Int.reduceAdd, Int.reduceSub, Int.reduceMul, Bool.not_true, Bool.not_false]) | refine WA_seq ?_ | refine WA_block ?_ | (refine WA_skip ?_; try simp only [go_sem]) | (refine WA_ret ?_; try simp only [go_sem]) | refine WA_ct rfl ?_ | refine WA_cf rfl ?_))
      rw [rowC_all]
      ((first | refine ret_none (by first | exact .inr rfl | exact .inl rfl) ?_ | refine ret_same (by first | exact .inr rfl | exact .inl rfl) ?_ (by first | rfl | exact plain_agg (by simp only [go_sem]) | exact plain_two (by first | exact plain_agg (by simp only [go_sem]) | rfl) (by first | exact plain_agg (by simp only [go_sem]) | rfl)) | refine ret_full (by first | exact .inr rfl | exact .inl rfl) (by simp) ?_); simp (maxSteps := 1000000) (disch := first | omega | rfl | decide | (simp only [List.length_cons, List.length_nil, List.length_append, Bs_length, Is_length, Vs_length, Bl_length, Il_length] <;> omega)) only [go_sem, Nat.reduceAdd, Int.reduceAdd, Int.reduceSub, Int.reduceMul, Bool.not_true, Bool.not_false]; try rfl)

end Go.Proofs.Ytkgiocoiojdgfaa
/- Ranks of lists of numbers as rows of bits: both ways of reckoning give the same. Plain. -/
namespace Go.Proofs.Ytkgiocoiojdgfaa
set_option linter.unusedSimpArgs false
set_option linter.unusedVariables false
set_option maxRecDepth 20000
set_option maxHeartbeats 1000000
open Go.Abs

/-- What is a sum of some of the rows. -/
def Spn : List Nat → Nat → Prop
  | [], v => v = 0
  | x :: l, v => Spn l v ∨ Spn l (v ^^^ x)
/-- No row is a sum of those behind it. -/
def Ind : List Nat → Prop
  | [] => True
  | x :: l => ¬ Spn l x ∧ Ind l
theorem xx (a b : Nat) : a ^^^ b ^^^ b = a := by rw [Nat.xor_assoc, Nat.xor_self, Nat.xor_zero]
theorem Spn_zero : ∀ l, Spn l 0
  | [] => rfl
  | _ :: l => .inl (Spn_zero l)
theorem Spn_xor : ∀ {l : List Nat} {v w : Nat}, Spn l v → Spn l w → Spn l (v ^^^ w)
  | [], v, w, hv, hw => by rw [show v = 0 from hv, show w = 0 from hw]; rfl
  | x :: l, v, w, hv, hw => by
    rcases hv with hv | hv <;> rcases hw with hw | hw
    · exact .inl (Spn_xor hv hw)
    · exact .inr (by rw [Nat.xor_assoc]; exact Spn_xor hv hw)
    · refine .inr ?_
      rw [show v ^^^ w ^^^ x = (v ^^^ x) ^^^ w by rw [Nat.xor_assoc, Nat.xor_assoc, Nat.xor_comm w]]
      exact Spn_xor hv hw
    · refine .inl ?_
      have := Spn_xor hv hw
      rwa [show v ^^^ x ^^^ (w ^^^ x) = v ^^^ w by rw [xor_swap, Nat.xor_self, Nat.xor_zero]] at this
theorem Spn_mem : ∀ {l : List Nat} {x : Nat}, x ∈ l → Spn l x
  | y :: l, x, h => by
    rcases List.mem_cons.1 h with rfl | h
    · exact .inr (by rw [Nat.xor_self]; exact Spn_zero l)
    · exact .inl (Spn_mem h)
/-- A span lies in another, if the rows do. -/
theorem Spn_sub : ∀ {l k : List Nat}, (∀ x, x ∈ l → Spn k x) → ∀ {v : Nat}, Spn l v → Spn k v
  | [], k, _, v, h => by rw [show v = 0 from h]; exact Spn_zero k
  | x :: l, k, hl, v, h => by
    have hl' : ∀ y, y ∈ l → Spn k y := fun y hy => hl y (List.mem_cons_of_mem _ hy)
    rcases h with h | h
    · exact Spn_sub hl' h
    · have := Spn_xor (Spn_sub hl' h) (hl x (List.mem_cons_self ..))
      rwa [xx] at this
/-- The sum that a mask chooses. -/
def sel : List Nat → Nat → Nat
  | [], _ => 0
  | x :: l, m => (if m % 2 = 1 then x else 0) ^^^ sel l (m / 2)
theorem sel_span : ∀ (l : List Nat) (m : Nat), Spn l (sel l m)
  | [], _ => rfl
  | x :: l, m => by
    unfold sel
    split
    · refine .inr ?_
      rw [Nat.xor_comm x, xx]
      exact sel_span l _
    · refine .inl ?_
      rw [Nat.zero_xor]
      exact sel_span l _
theorem span_sel : ∀ {l : List Nat} {v : Nat}, Spn l v → ∃ m, m < 2 ^ l.length ∧ sel l m = v
  | [], v, h => ⟨0, by simp, (show v = 0 from h).symm⟩
  | x :: l, v, h => by
    rcases h with h | h
    · obtain ⟨m, hm, e⟩ := span_sel h
      refine ⟨2 * m, by rw [List.length_cons, Nat.pow_succ]; omega, ?_⟩
      unfold sel
      rw [if_neg (by omega), show 2 * m / 2 = m by omega, e, Nat.zero_xor]
    · obtain ⟨m, hm, e⟩ := span_sel h
      refine ⟨2 * m + 1, by rw [List.length_cons, Nat.pow_succ]; omega, ?_⟩
      unfold sel
      rw [if_pos (by omega), show (2 * m + 1) / 2 = m by omega, e, Nat.xor_comm x, xx]
theorem sel_inj : ∀ {l : List Nat}, Ind l → ∀ {m n : Nat}, m < 2 ^ l.length → n < 2 ^ l.length → sel l m = sel l n → m = n
  | [], _, m, n, hm, hn, _ => by simp at hm hn; omega
  | x :: l, hi, m, n, hm, hn, e => by
    rw [List.length_cons, Nat.pow_succ] at hm hn
    have key : sel l (m / 2) = sel l (n / 2) → m % 2 = n % 2 → m = n := fun e2 e3 => by
      have := sel_inj hi.2 (m := m / 2) (n := n / 2) (by omega) (by omega) e2
      omega
    unfold sel at e
    have bad : x ^^^ sel l (m / 2) = 0 ^^^ sel l (n / 2) → False := fun e => by
      refine hi.1 ?_
      have : x = sel l (n / 2) ^^^ sel l (m / 2) := by
        rw [← Nat.zero_xor (sel l (n / 2)), ← e, xx]
      rw [this]
      exact Spn_xor (sel_span l _) (sel_span l _)
    have bad2 : 0 ^^^ sel l (m / 2) = x ^^^ sel l (n / 2) → False := fun e => by
      refine hi.1 ?_
      have : x = sel l (m / 2) ^^^ sel l (n / 2) := by
        rw [← Nat.zero_xor (sel l (m / 2)), e, xx]
      rw [this]
      exact Spn_xor (sel_span l _) (sel_span l _)
    by_cases h1 : m % 2 = 1 <;> by_cases h2 : n % 2 = 1
    · rw [if_pos h1, if_pos h2] at e
      refine key ?_ (by omega)
      have := congrArg (x ^^^ ·) e
      simpa [← Nat.xor_assoc] using this
    · rw [if_pos h1, if_neg h2] at e; exact (bad e).elim
    · rw [if_neg h1, if_pos h2] at e; exact (bad2 e).elim
    · rw [if_neg h1, if_neg h2, Nat.zero_xor, Nat.zero_xor] at e
      exact key e (by omega)
theorem pigeon {N M : Nat} (g : Nat → Nat) (hr : ∀ i, i < N → g i < M) (hi : ∀ i j, i < N → j < N → g i = g j → i = j) : N ≤ M := by
  rcases Nat.lt_or_ge M N with h | h
  · obtain ⟨i, h1, h2⟩ := inj_surj N g (fun i hi' => Nat.lt_trans (hr i hi') h) hi M h
    have := hr i h1
    omega
  · exact h
theorem Ind_le {l k : List Nat} (hl : Ind l) (hs : ∀ v, Spn l v → Spn k v) : l.length ≤ k.length := by
  have h : ∀ m, ∃ n, n < 2 ^ k.length ∧ sel k n = sel l m := fun m => span_sel (hs _ (sel_span l m))
  obtain ⟨g, hg⟩ := Classical.axiomOfChoice h
  have hp := pigeon (N := 2 ^ l.length) (M := 2 ^ k.length) g (fun i _ => (hg i).1) fun i j hi hj e => sel_inj hl hi hj (by rw [← (hg i).2, ← (hg j).2, e])
  exact (Nat.pow_le_pow_iff_right (by omega)).1 hp
theorem Ind_eq {l k : List Nat} (hl : Ind l) (hk : Ind k) (hs : ∀ v, Spn l v ↔ Spn k v) : l.length = k.length :=
  Nat.le_antisymm (Ind_le hl fun v h => (hs v).1 h) (Ind_le hk fun v h => (hs v).2 h)
theorem Spn_app : ∀ {l k : List Nat} {v : Nat}, Spn (l ++ k) v ↔ ∃ a, Spn l a ∧ Spn k (v ^^^ a)
  | [], k, v => ⟨fun h => ⟨0, rfl, by rw [Nat.xor_zero]; exact h⟩, fun ⟨a, h1, h2⟩ => by rw [show a = 0 from h1, Nat.xor_zero] at h2; exact h2⟩
  | x :: l, k, v => by
    constructor
    · rintro (h | h)
      · obtain ⟨a, h1, h2⟩ := Spn_app.1 h
        exact ⟨a, .inl h1, h2⟩
      · obtain ⟨a, h1, h2⟩ := Spn_app.1 h
        refine ⟨a ^^^ x, .inr (by rw [xx]; exact h1), ?_⟩
        rw [show v ^^^ (a ^^^ x) = v ^^^ x ^^^ a by rw [Nat.xor_comm a, Nat.xor_assoc]]; exact h2
    · rintro ⟨a, h1 | h1, h2⟩
      · exact .inl (Spn_app.2 ⟨a, h1, h2⟩)
      · refine .inr (Spn_app.2 ⟨a ^^^ x, h1, ?_⟩)
        rw [show v ^^^ x ^^^ (a ^^^ x) = v ^^^ a by rw [xor_swap, Nat.xor_self, Nat.xor_zero]]; exact h2
theorem Spn_one {x v : Nat} : Spn [x] v ↔ v = 0 ∨ v = x := by
  constructor
  · rintro (h | h)
    · exact .inl h
    · exact .inr (by have := congrArg (· ^^^ x) (show v ^^^ x = 0 from h); simpa [xx] using this)
  · rintro (h | h)
    · exact .inl h
    · exact .inr (by subst h; exact Nat.xor_self _)
theorem Ind_snoc : ∀ {l : List Nat} {x : Nat}, Ind l → ¬ Spn l x → Ind (l ++ [x])
  | [], x, _, h => ⟨fun e => h e, trivial⟩
  | y :: l, x, hi, h => by
    refine ⟨fun e => ?_, Ind_snoc hi.2 fun e => h (.inl e)⟩
    obtain ⟨a, h1, h2⟩ := Spn_app.1 e
    rcases Spn_one.1 h2 with h3 | h3
    · have : y = a := by have := congrArg (· ^^^ a) h3; simpa [xx] using this
      exact hi.1 (this ▸ h1)
    · refine h (.inr ?_)
      rw [← h3, Nat.xor_comm y, xx]; exact h1

/-! ### The basis kept in the order of coming -/
/-- The uppermost bit. -/
def tp (x : Nat) : Nat := Nat.log2 x
theorem tp_bit {x : Nat} (h : x ≠ 0) : x.testBit (tp x) = true := by
  refine Nat.testBit_of_two_pow_le_and_two_pow_add_one_gt ?_ ?_
  · exact Nat.log2_self_le h
  · exact Nat.lt_log2_self
theorem lt_bit {x y k : Nat} (hx : x.testBit k = false) (hy : y.testBit k = true) (h : ∀ j, k < j → x.testBit j = y.testBit j) : x < y := by
  have e : x / 2 ^ (k + 1) = y / 2 ^ (k + 1) := Nat.eq_of_testBit_eq fun i => by
    rw [Nat.testBit_div_two_pow, Nat.testBit_div_two_pow]; exact h _ (by omega)
  rw [Nat.testBit_eq_decide_div_mod_eq, decide_eq_false_iff_not] at hx
  rw [Nat.testBit_eq_decide_div_mod_eq, decide_eq_true_eq] at hy
  rw [Nat.pow_succ, ← Nat.div_div_eq_div_mul, ← Nat.div_div_eq_div_mul] at e
  have : x / 2 ^ k < y / 2 ^ k := by omega
  exact Nat.lt_of_div_lt_div this
theorem min_top {n b : Nat} (hb : b ≠ 0) : (min n (n ^^^ b)).testBit (tp b) = false ∧ (min n (n ^^^ b) = n ∨ min n (n ^^^ b) = n ^^^ b) := by
  refine ⟨?_, ?_⟩
  · have hx : (n ^^^ b).testBit (tp b) = !n.testBit (tp b) := by rw [Nat.testBit_xor, tp_bit hb]; cases n.testBit (tp b) <;> rfl
    have hhi : ∀ j, tp b < j → (n ^^^ b).testBit j = n.testBit j := fun j hj => by
      rw [Nat.testBit_xor, Nat.testBit_lt_two_pow (x := b) (Nat.lt_of_lt_of_le Nat.lt_log2_self (Nat.pow_le_pow_right (by omega) hj)), Bool.xor_false]
    rw [Nat.min_def]
    split
    · rename_i hle
      cases hn : n.testBit (tp b) with
      | false => rfl
      | true =>
        have : n ^^^ b < n := lt_bit (by rw [hx, hn]; rfl) hn hhi
        omega
    · rename_i hle
      cases hn : n.testBit (tp b) with
      | true => rw [hx, hn]; rfl
      | false =>
        have : n < n ^^^ b := lt_bit hn (by rw [hx, hn]; rfl) (fun j hj => (hhi j hj).symm)
        omega
  · rw [Nat.min_def]; split
    · exact .inl rfl
    · exact .inr rfl
/-- A number less what the basis takes from it: the first k. -/
def redB (B : List Nat) (n : Nat) : Nat := B.foldl (fun n b => min n (n ^^^ b)) n
/-- Each row is other than 0, and has no bit at the top of a row ahead of it. -/
def Tops : List Nat → Prop
  | [] => True
  | b :: B => b ≠ 0 ∧ (∀ c, c ∈ B → c.testBit (tp b) = false) ∧ Tops B
theorem redB_keep : ∀ {B : List Nat} {n k : Nat}, (∀ c, c ∈ B → c.testBit k = false) → n.testBit k = false → (redB B n).testBit k = false
  | [], n, k, _, h => h
  | b :: B, n, k, hB, h => by
    show (redB B (min n (n ^^^ b))).testBit k = false
    refine redB_keep (fun c hc => hB c (List.mem_cons_of_mem _ hc)) ?_
    rw [Nat.min_def]; split
    · exact h
    · rw [Nat.testBit_xor, h, hB b (List.mem_cons_self ..)]; rfl
theorem redB_tops : ∀ {B : List Nat} (n : Nat), Tops B → ∀ c, c ∈ B → (redB B n).testBit (tp c) = false
  | b :: B, n, ht, c, hc => by
    show (redB B (min n (n ^^^ b))).testBit (tp c) = false
    rcases List.mem_cons.1 hc with rfl | hc
    · exact redB_keep ht.2.1 (min_top ht.1).1
    · exact redB_tops _ ht.2.2 c hc
theorem redB_span : ∀ {B : List Nat} (n : Nat), Spn B (n ^^^ redB B n)
  | [], n => by show n ^^^ n = 0; exact Nat.xor_self n
  | b :: B, n => by
    show Spn B (n ^^^ redB B (min n (n ^^^ b))) ∨ Spn B (n ^^^ redB B (min n (n ^^^ b)) ^^^ b)
    have ih := redB_span (B := B) (min n (n ^^^ b))
    rw [Nat.min_def] at ih ⊢
    split at ih
    · rename_i h
      rw [if_pos h]; exact .inl ih
    · rename_i h
      rw [if_neg h]
      refine .inr ?_
      rw [show n ^^^ redB B (n ^^^ b) ^^^ b = n ^^^ b ^^^ redB B (n ^^^ b) by rw [Nat.xor_assoc, Nat.xor_comm (redB B _), ← Nat.xor_assoc]]; exact ih
/-- What lies in the span and has none of the tops is 0. -/
theorem tops_zero : ∀ {B : List Nat} {v : Nat}, Tops B → Spn B v → (∀ c, c ∈ B → v.testBit (tp c) = false) → v = 0
  | [], v, _, h, _ => h
  | b :: B, v, ht, h, hv => by
    have hlow : ∀ {B : List Nat} {k w : Nat}, (∀ c, c ∈ B → c.testBit k = false) → Spn B w → w.testBit k = false := fun {B} => by
      induction B with
      | nil => intro k w _ h; rw [show w = 0 from h]; exact Nat.zero_testBit k
      | cons c B ih =>
        intro k w hB h
        have hB' : ∀ d, d ∈ B → d.testBit k = false := fun d hd => hB d (List.mem_cons_of_mem _ hd)
        rcases h with h | h
        · exact ih hB' h
        · have := ih hB' h
          rw [Nat.testBit_xor, hB c (List.mem_cons_self ..), Bool.xor_false] at this
          exact this
    rcases h with h | h
    · exact tops_zero ht.2.2 h fun c hc => hv c (List.mem_cons_of_mem _ hc)
    · have h1 := hlow ht.2.1 h
      rw [Nat.testBit_xor, hv b (List.mem_cons_self ..), tp_bit ht.1] at h1
      cases h1
def basF (B : List Nat) (l : List Nat) : List Nat := l.foldl (fun B n => if redB B n = 0 then B else B ++ [redB B n]) B
theorem Tops_snoc : ∀ {B : List Nat} {n : Nat}, Tops B → n ≠ 0 → (∀ c, c ∈ B → n.testBit (tp c) = false) → Tops (B ++ [n])
  | [], n, _, h, _ => ⟨h, fun _ hc => by simp at hc, trivial⟩
  | b :: B, n, ht, h, hn => by
    refine ⟨ht.1, fun c hc => ?_, Tops_snoc ht.2.2 h fun c hc => hn c (List.mem_cons_of_mem _ hc)⟩
    rcases List.mem_append.1 hc with hc | hc
    · exact ht.2.1 c hc
    · rw [List.mem_singleton.1 hc]; exact hn b (List.mem_cons_self ..)
theorem basF_ok : ∀ (l : List Nat) {B : List Nat}, Tops B → Ind B → Tops (basF B l) ∧ Ind (basF B l) ∧ ∀ v, Spn (basF B l) v ↔ Spn (B ++ l) v
  | [], B, ht, hi => ⟨ht, hi, fun v => by rw [List.append_nil]; rfl⟩
  | n :: l, B, ht, hi => by
    have hs := redB_span (B := B) n
    have hT := redB_tops n ht
    show Tops (basF (if redB B n = 0 then B else B ++ [redB B n]) l) ∧ _
    have swap : ∀ {B C : List Nat}, (∀ v, Spn B v ↔ Spn C v) → ∀ v, Spn (B ++ l) v ↔ Spn (C ++ l) v := fun hBC v => by
      rw [Spn_app, Spn_app]
      exact ⟨fun ⟨a, h1, h2⟩ => ⟨a, (hBC a).1 h1, h2⟩, fun ⟨a, h1, h2⟩ => ⟨a, (hBC a).2 h1, h2⟩⟩
    by_cases h : redB B n = 0
    · have hp := basF_ok l (B := B) ht hi
      show Tops (basF (if redB B n = 0 then B else B ++ [redB B n]) l) ∧ Ind (basF (if redB B n = 0 then B else B ++ [redB B n]) l) ∧ _
      rw [if_pos h]
      refine ⟨hp.1, hp.2.1, fun v => ?_⟩
      show Spn (basF (if redB B n = 0 then B else B ++ [redB B n]) l) v ↔ _
      rw [if_pos h, hp.2.2 v, show B ++ n :: l = (B ++ [n]) ++ l by simp]
      refine swap (fun v => ?_) v
      rw [h, Nat.xor_zero] at hs
      rw [Spn_app]
      constructor
      · intro hv
        exact ⟨v, hv, by rw [Nat.xor_self]; exact Spn_zero _⟩
      · rintro ⟨a, h1, h2⟩
        rcases Spn_one.1 h2 with h3 | h3
        · have : v = a := by have := congrArg (· ^^^ a) h3; simpa [xx] using this
          rw [this]; exact h1
        · have : v = n ^^^ a := by have := congrArg (· ^^^ a) h3; simpa [xx] using this
          rw [this]; exact Spn_xor hs h1
    · have hno : ¬ Spn B (redB B n) := fun e => h (tops_zero ht e hT)
      have hp := basF_ok l (B := B ++ [redB B n]) (Tops_snoc ht h hT) (Ind_snoc hi hno)
      show Tops (basF (if redB B n = 0 then B else B ++ [redB B n]) l) ∧ Ind (basF (if redB B n = 0 then B else B ++ [redB B n]) l) ∧ _
      rw [if_neg h]
      refine ⟨hp.1, hp.2.1, fun v => ?_⟩
      show Spn (basF (if redB B n = 0 then B else B ++ [redB B n]) l) v ↔ _
      rw [if_neg h, hp.2.2 v, show B ++ n :: l = (B ++ [n]) ++ l by simp]
      refine swap (fun v => ?_) v
      rw [Spn_app, Spn_app]
      constructor
      · rintro ⟨a, h1, h2⟩
        rcases Spn_one.1 h2 with h3 | h3
        · exact ⟨a, h1, Spn_one.2 (.inl h3)⟩
        · refine ⟨a ^^^ (n ^^^ redB B n), Spn_xor h1 hs, Spn_one.2 (.inr ?_)⟩
          rw [← Nat.xor_assoc, h3, Nat.xor_comm n, ← Nat.xor_assoc, Nat.xor_self, Nat.zero_xor]
      · rintro ⟨a, h1, h2⟩
        rcases Spn_one.1 h2 with h3 | h3
        · exact ⟨a, h1, Spn_one.2 (.inl h3)⟩
        · refine ⟨a ^^^ (n ^^^ redB B n), Spn_xor h1 hs, Spn_one.2 (.inr ?_)⟩
          rw [← Nat.xor_assoc, h3, ← Nat.xor_assoc, Nat.xor_self, Nat.zero_xor]

/-! ### The lowest bit taken from the rows behind -/
/-- Rows less a row at a bit. -/
def clr (x k : Nat) (l : List Nat) : List Nat := l.map fun y => if y.testBit k = true then y ^^^ x else y
theorem clr_len (x k : Nat) (l : List Nat) : (clr x k l).length = l.length := by unfold clr; rw [List.length_map]
/-- The rank, with each row's bit told by low. -/
def rkL (low : Nat → Nat) : Nat → List Nat → Nat
  | 0, _ => 0
  | _ + 1, [] => 0
  | f + 1, x :: l => if x = 0 then rkL low f l else rkL low f (clr x (low x) l) + 1
theorem clr_span (x k : Nat) (l : List Nat) (v : Nat) : Spn (x :: clr x k l) v ↔ Spn (x :: l) v := by
  constructor
  · refine Spn_sub fun y hy => ?_
    rcases List.mem_cons.1 hy with rfl | hy
    · exact Spn_mem (List.mem_cons_self ..)
    · obtain ⟨z, hz, rfl⟩ := List.mem_map.1 hy
      have hz' := Spn_mem (l := x :: l) (List.mem_cons_of_mem _ hz)
      split
      · exact Spn_xor hz' (Spn_mem (List.mem_cons_self ..))
      · exact hz'
  · refine Spn_sub fun y hy => ?_
    rcases List.mem_cons.1 hy with rfl | hy
    · exact Spn_mem (List.mem_cons_self ..)
    · have hm : (if y.testBit k = true then y ^^^ x else y) ∈ clr x k l := List.mem_map.2 ⟨y, hy, rfl⟩
      have hz' := Spn_mem (l := x :: clr x k l) (List.mem_cons_of_mem _ hm)
      split at hz'
      · have := Spn_xor hz' (Spn_mem (l := x :: clr x k l) (List.mem_cons_self ..))
        rwa [xx] at this
      · exact hz'
theorem clr_bit {x k : Nat} (hk : x.testBit k = true) {l : List Nat} : ∀ c, c ∈ clr x k l → c.testBit k = false := fun c hc => by
  obtain ⟨z, hz, rfl⟩ := List.mem_map.1 hc
  split
  · rename_i h; rw [Nat.testBit_xor, h, hk]; rfl
  · rename_i h; simpa using h
theorem Spn_bit : ∀ {B : List Nat} {k w : Nat}, (∀ c, c ∈ B → c.testBit k = false) → Spn B w → w.testBit k = false
  | [], k, w, _, h => by rw [show w = 0 from h]; exact Nat.zero_testBit k
  | c :: B, k, w, hB, h => by
    have hB' : ∀ d, d ∈ B → d.testBit k = false := fun d hd => hB d (List.mem_cons_of_mem _ hd)
    rcases h with h | h
    · exact Spn_bit hB' h
    · have := Spn_bit hB' h
      rw [Nat.testBit_xor, hB c (List.mem_cons_self ..), Bool.xor_false] at this
      exact this
/-- A row's own bits: rows with as many independent ones as the rank. -/
theorem rkL_ok {low : Nat → Nat} (hl : ∀ x, x ≠ 0 → x.testBit (low x) = true) : ∀ (f : Nat) (l : List Nat), l.length ≤ f → ∃ P : List Nat, P.length = rkL low f l ∧ Ind P ∧ ∀ v, Spn P v ↔ Spn l v
  | 0, l, h => ⟨[], rfl, trivial, fun v => by rw [List.length_eq_zero_iff.1 (Nat.le_zero.1 h)]⟩
  | f + 1, [], _ => ⟨[], rfl, trivial, fun v => Iff.rfl⟩
  | f + 1, x :: l, h => by
    rw [List.length_cons] at h
    by_cases hx : x = 0
    · obtain ⟨P, h1, h2, h3⟩ := rkL_ok hl f l (by omega)
      refine ⟨P, by rw [rkL, if_pos hx]; exact h1, h2, fun v => ?_⟩
      rw [h3 v, hx]
      exact ⟨.inl, fun h => by rcases h with h | h; exact h; rwa [Nat.xor_zero] at h⟩
    · obtain ⟨P, h1, h2, h3⟩ := rkL_ok hl f (clr x (low x) l) (by rw [clr_len]; omega)
      refine ⟨x :: P, by rw [rkL, if_neg hx, List.length_cons, h1], ⟨fun e => ?_, h2⟩, fun v => ?_⟩
      · have := Spn_bit (clr_bit (hl x hx)) ((h3 x).1 e)
        rw [hl x hx] at this; cases this
      · rw [← clr_span x (low x) l v]
        show Spn P v ∨ Spn P (v ^^^ x) ↔ Spn (clr x (low x) l) v ∨ Spn (clr x (low x) l) (v ^^^ x)
        rw [h3 v, h3 (v ^^^ x)]
/-- Both ranks are the same. -/
theorem rk_same {low : Nat → Nat} (hl : ∀ x, x ≠ 0 → x.testBit (low x) = true) (l : List Nat) : rkL low l.length l = (basF [] l).length := by
  obtain ⟨P, h1, h2, h3⟩ := rkL_ok hl l.length l (Nat.le_refl _)
  obtain ⟨_, h4, h5⟩ := basF_ok l (B := []) trivial trivial
  rw [← h1]
  exact Ind_eq h2 h4 fun v => by rw [h3 v, h5 v, List.nil_append]
end Go.Proofs.Ytkgiocoiojdgfaa
/- Ranks of bits as the programs reckon them. Plain. -/
namespace Go.Proofs.Ytkgiocoiojdgfaa
set_option linter.unusedSimpArgs false
set_option linter.unusedVariables false
set_option maxRecDepth 20000
set_option maxHeartbeats 1000000
open Go.Abs

/-- The lowest bit's place. -/
def lowN (x : Nat) : Nat := skip (fun k => !x.testBit k) (x + 1) 0
theorem lowN_lt {x : Nat} (h : x ≠ 0) : lowN x < x + 1 := by
  rcases Nat.lt_or_ge (lowN x) (x + 1) with h1 | h1
  · exact h1
  · have hl : tp x < lowN x := Nat.lt_of_lt_of_le (Nat.lt_of_lt_of_le Nat.lt_two_pow_self (Nat.log2_self_le h)) (by omega)
    have := skip_go (p := fun k => !x.testBit k) (x + 1) 0 (tp x) hl
    rw [Nat.zero_add, tp_bit h] at this
    cases this
theorem lowN_bit {x : Nat} (h : x ≠ 0) : x.testBit (lowN x) = true := by
  have := skip_end (p := fun k => !x.testBit k) (x + 1) 0 (lowN_lt h)
  rw [Nat.zero_add] at this
  simpa [lowN] using this
theorem lowN_below {x i : Nat} (h : i < lowN x) : x.testBit i = false := by
  have := skip_go (p := fun k => !x.testBit k) (x + 1) 0 i h
  rw [Nat.zero_add] at this
  simpa using this
theorem low_form {x : Nat} (h : x ≠ 0) : ∃ o, x = 2 ^ lowN x * (2 * o + 1) := by
  have h1 : x % 2 ^ lowN x = 0 := Nat.eq_of_testBit_eq fun i => by
    rw [Nat.testBit_mod_two_pow, Nat.zero_testBit]
    by_cases hi : i < lowN x
    · rw [lowN_below hi, Bool.and_false]
    · rw [decide_eq_false hi, Bool.false_and]
  have h2 := lowN_bit h
  rw [Nat.testBit_eq_decide_div_mod_eq, decide_eq_true_eq] at h2
  refine ⟨x / 2 ^ lowN x / 2, ?_⟩
  have h3 := Nat.div_add_mod x (2 ^ lowN x)
  rw [h1, Nat.add_zero] at h3
  rw [show 2 * (x / 2 ^ lowN x / 2) + 1 = x / 2 ^ lowN x by omega, h3]
theorem low_and {x : Nat} (h : x ≠ 0) (hx : x < 4294967296) : x &&& (2 ^ 64 - x) = 2 ^ lowN x := by
  obtain ⟨o, ho⟩ := low_form h
  have hk := lowN_bit h
  generalize lowN x = k at ho hk
  have hp : 0 < 2 ^ k := Nat.two_pow_pos k
  have hk32 : k < 32 := by
    rcases Nat.lt_or_ge k 32 with h1 | h1
    · exact h1
    · rw [Nat.testBit_lt_two_pow (Nat.lt_of_lt_of_le hx (Nat.pow_le_pow_right (n := 2) (by omega) h1))] at hk; cases hk
  have h1 : x - 1 = 2 ^ k * (2 * o) + (2 ^ k - 1) := by
    rw [ho, Nat.mul_add, Nat.mul_one]; omega
  refine Nat.eq_of_testBit_eq fun i => ?_
  rw [Nat.testBit_and, show 2 ^ 64 - x = 2 ^ 64 - (x - 1 + 1) by omega, Nat.testBit_two_pow_sub_succ (by omega), Nat.testBit_two_pow, h1]
  have hx2 : x = 2 ^ k * (2 * o + 1) + 0 := by omega
  rw [hx2, Nat.testBit_two_pow_mul_add _ hp, Nat.testBit_two_pow_mul_add _ (show 2 ^ k - 1 < 2 ^ k by omega)]
  by_cases hi : i < k
  · rw [if_pos hi, Nat.zero_testBit, Bool.false_and, decide_eq_false (show ¬ k = i by omega)]
  · rw [if_neg hi, if_neg hi]
    by_cases he : k = i
    · subst he
      rw [Nat.sub_self, Nat.testBit_zero, Nat.testBit_zero, decide_eq_true (show k < 64 by omega), decide_eq_true (show (2 * o + 1) % 2 = 1 by omega), decide_eq_false (show ¬ 2 * o % 2 = 1 by omega), decide_eq_true rfl]; rfl
    · obtain ⟨d, hd⟩ : ∃ d, i - k = d + 1 := ⟨i - k - 1, by omega⟩
      rw [hd, Nat.testBit_succ, Nat.testBit_succ, show (2 * o + 1) / 2 = o by omega, show 2 * o / 2 = o by omega, decide_eq_false he]
      cases o.testBit d <;> simp
theorem bits_low {x : Nat} (h : x ≠ 0) (hx : x < 4294967296) : bits .and .i64 (x : Int) (-(x : Int)) = ((2 ^ lowN x : Nat) : Int) := by
  have hn : (BitVec.ofInt 64 (-(x : Int))).toNat = 2 ^ 64 - x := by
    rw [BitVec.toNat_ofInt]
    have : (-(x : Int)) % ((2 ^ 64 : Nat) : Int) = ((2 ^ 64 - x : Nat) : Int) := by
      rw [show ((2 ^ 64 - x : Nat) : Int) = (-(x : Int)) + ((2 ^ 64 : Nat) : Int) by omega]
      rw [← Int.add_emod_right, Int.emod_eq_of_lt (by omega) (by omega)]
    rw [this, Int.toNat_natCast]
  show IntKind.i64.wrap ((BitVec.ofInt 64 (x : Int) &&& BitVec.ofInt 64 (-(x : Int))).toNat : Int) = _
  rw [BitVec.toNat_and, hn, ofInt64_nat (by omega), low_and h hx]
  have hb : lowN x < 32 := by
    rcases Nat.lt_or_ge (lowN x) 32 with h1 | h1
    · exact h1
    · have := lowN_bit h
      rw [Nat.testBit_lt_two_pow (Nat.lt_of_lt_of_le hx (Nat.pow_le_pow_right (n := 2) (by omega) h1))] at this; cases this
  have : 2 ^ lowN x ≤ 2 ^ 32 := Nat.pow_le_pow_right (by omega) (by omega)
  exact wrap_N (by omega)
theorem low_lt {x : Nat} (h : x ≠ 0) (hx : x < 4294967296) : 2 ^ lowN x < 4294967296 := by
  rcases Nat.lt_or_ge (lowN x) 32 with h1 | h1
  · exact Nat.pow_lt_pow_right (by omega) h1
  · have := lowN_bit h
    rw [Nat.testBit_lt_two_pow (Nat.lt_of_lt_of_le hx (Nat.pow_le_pow_right (n := 2) (by omega) h1))] at this; cases this
theorem and_low (y k : Nat) : (((y &&& 2 ^ k : Nat) : Int) != 0) = y.testBit k := by
  have e : y &&& 2 ^ k = if y.testBit k = true then 2 ^ k else 0 := Nat.eq_of_testBit_eq fun i => by
    rw [Nat.testBit_and, Nat.testBit_two_pow]
    by_cases h : k = i
    · subst h
      cases hb : y.testBit k <;> simp [Nat.testBit_two_pow]
    · rw [decide_eq_false h, Bool.and_false]
      split
      · rw [Nat.testBit_two_pow, decide_eq_false h]
      · rw [Nat.zero_testBit]
  rw [e]
  cases y.testBit k
  · rfl
  · have := Nat.two_pow_pos k
    rw [if_pos rfl, bne_iff_ne]
    omega

/-! ### The rows turned one by one -/
/-- Behind the i-th row those with its lowest bit are turned. -/
def clrF (g : Nat → Nat) (i : Nat) : Nat → Nat := fun q => if i < q ∧ (g q).testBit (lowN (g i)) = true then g q ^^^ g i else g q
/-- The same, the first t of them alone. -/
def clrP (g : Nat → Nat) (i t : Nat) : Nat → Nat := fun q => if q < i + 1 + t then clrF g i q else g q
theorem clrP_zero (g : Nat → Nat) (i : Nat) : clrP g i 0 = g := by
  funext q; unfold clrP clrF
  by_cases h : q < i + 1 + 0
  · rw [if_pos h, if_neg (by omega)]
  · rw [if_neg h]
theorem clrP_at (g : Nat → Nat) (i t : Nat) : clrP g i t (i + 1 + t) = g (i + 1 + t) := by unfold clrP; rw [if_neg (by omega)]
theorem clrP_set (g : Nat → Nat) (i t : Nat) (h : (g (i + 1 + t)).testBit (lowN (g i)) = true) : upd (clrP g i t) (i + 1 + t) (g (i + 1 + t) ^^^ g i) = clrP g i (t + 1) := by
  funext q; unfold upd clrP
  by_cases e : q = i + 1 + t
  · subst e; rw [if_pos rfl, if_pos (by omega)]; unfold clrF; rw [if_pos ⟨by omega, h⟩]
  · rw [if_neg e]
    by_cases h2 : q < i + 1 + t
    · rw [if_pos h2, if_pos (by omega)]
    · rw [if_neg h2, if_neg (by omega)]
theorem clrP_skip (g : Nat → Nat) (i t : Nat) (h : (g (i + 1 + t)).testBit (lowN (g i)) = false) : clrP g i t = clrP g i (t + 1) := by
  funext q; unfold clrP
  by_cases e : q = i + 1 + t
  · subst e; rw [if_neg (by omega), if_pos (by omega)]; unfold clrF; rw [if_neg (by rw [h]; intro x; cases x.2)]
  · by_cases h2 : q < i + 1 + t
    · rw [if_pos h2, if_pos (by omega)]
    · rw [if_neg h2, if_neg (by omega)]
structure RbSt where
  g : Nat → Nat
  r : Nat
def rbS (g : Nat → Nat) : Nat → RbSt
  | 0 => ⟨g, 0⟩
  | i + 1 => if (rbS g i).g i = 0 then rbS g i else ⟨clrF (rbS g i).g i, (rbS g i).r + 1⟩
theorem clrF_lt {g : Nat → Nat} {n : Nat} (h : ∀ q, q < n → g q < 4294967296) {i : Nat} (hi : i < n) : ∀ q, q < n → clrF g i q < 4294967296 := fun q hq => by
  unfold clrF; split
  · exact Nat.xor_lt_two_pow (n := 32) (h q hq) (h i hi)
  · exact h q hq
theorem rbS_lt {g : Nat → Nat} {n : Nat} (h : ∀ q, q < n → g q < 4294967296) : ∀ i, i ≤ n → ∀ q, q < n → (rbS g i).g q < 4294967296
  | 0, _ => h
  | i + 1, hi => by
    have ih := rbS_lt h i (by omega)
    rw [rbS]; split
    · exact ih
    · exact clrF_lt ih (by omega)
theorem rbS_le (g : Nat → Nat) : ∀ i, (rbS g i).r ≤ i
  | 0 => Nat.le_refl 0
  | i + 1 => by
    have := rbS_le g i
    rw [rbS]; split
    · omega
    · show (rbS g i).r + 1 ≤ i + 1; omega
def tailL (g : Nat → Nat) (i n : Nat) : List Nat := (List.range (n - i)).map fun t => g (i + t)
theorem tailL_cons {g : Nat → Nat} {i n : Nat} (h : i < n) : tailL g i n = g i :: tailL g (i + 1) n := by
  unfold tailL
  rw [show n - i = (n - (i + 1)) + 1 by omega, List.range_succ_eq_map, List.map_cons, List.map_map]
  congr 1
  refine List.map_congr_left fun t _ => ?_
  show g (i + (t + 1)) = g (i + 1 + t)
  congr 1; omega
theorem rbS_rk (g : Nat → Nat) (n : Nat) : ∀ i, i ≤ n → rkL lowN (n - i) (tailL (rbS g i).g i n) + (rbS g i).r = rkL lowN n (tailL g 0 n)
  | 0, _ => rfl
  | i + 1, hi => by
    rw [← rbS_rk g n i (by omega), tailL_cons (show i < n by omega), show n - i = (n - (i + 1)) + 1 by omega]
    by_cases h : (rbS g i).g i = 0
    · rw [rkL, if_pos h, rbS, if_pos h]
    · rw [rkL, if_neg h, rbS, if_neg h]
      have e : tailL (clrF (rbS g i).g i) (i + 1) n = clr ((rbS g i).g i) (lowN ((rbS g i).g i)) (tailL (rbS g i).g (i + 1) n) := by
        unfold tailL clr
        rw [List.map_map]
        refine List.map_congr_left fun t _ => ?_
        show (if i < i + 1 + t ∧ _ then _ else _) = if _ then _ else _
        by_cases hb : ((rbS g i).g (i + 1 + t)).testBit (lowN ((rbS g i).g i)) = true
        · rw [if_pos ⟨by omega, hb⟩, if_pos hb]
        · rw [if_neg (fun x => hb x.2), if_neg hb]
      show rkL lowN (n - (i + 1)) (tailL (clrF (rbS g i).g i) (i + 1) n) + ((rbS g i).r + 1) = _
      rw [e]; omega
/-- The rank of n rows. -/
def rankB (g : Nat → Nat) (n : Nat) : Nat := (basF [] (tailL g 0 n)).length
theorem rankB_spec (g : Nat → Nat) (n : Nat) : (rbS g n).r = rankB g n := by
  have h := rbS_rk g n n (Nat.le_refl n)
  have h2 := rk_same (low := lowN) (fun x => lowN_bit) (tailL g 0 n)
  have hl : (tailL g 0 n).length = n := by simp [tailL]
  rw [hl] at h2
  rw [Nat.sub_self, h2] at h
  simpa [rkL, rankB] using h

/-! ### The basis step by step -/
/-- The basis after the first k rows. -/
def basK (g : Nat → Nat) (k : Nat) : List Nat := basF [] ((List.range k).map g)
theorem basK_zero (g : Nat → Nat) : basK g 0 = [] := rfl
theorem basK_succ (g : Nat → Nat) (k : Nat) : basK g (k + 1) = if redB (basK g k) (g k) = 0 then basK g k else basK g k ++ [redB (basK g k) (g k)] := by
  unfold basK basF
  rw [List.range_succ, List.map_append, List.foldl_append]; rfl
theorem basK_all (g : Nat → Nat) (n : Nat) : (basK g n).length = rankB g n := by
  unfold basK rankB tailL
  rw [Nat.sub_zero]
  congr 3
  funext t; rw [Nat.zero_add]
theorem basK_le (g : Nat → Nat) : ∀ k, (basK g k).length ≤ k
  | 0 => Nat.le_refl 0
  | k + 1 => by
    have := basK_le g k
    rw [basK_succ]; split
    · omega
    · rw [List.length_append]; simp; omega
/-- A number less what the first j of a basis take. -/
def redP (B : List Nat) (n j : Nat) : Nat := redB (B.take j) n
theorem redP_zero (B : List Nat) (n : Nat) : redP B n 0 = n := rfl
theorem redP_all (B : List Nat) (n : Nat) : redP B n B.length = redB B n := by unfold redP; rw [List.take_length]
theorem redP_succ {B : List Nat} {n j : Nat} (hj : j < B.length) : redP B n (j + 1) = min (redP B n j) (redP B n j ^^^ B.getD j 0) := by
  unfold redP redB
  rw [List.take_succ_eq_append_getElem hj, List.foldl_append, List.getD_eq_getElem?_getD, List.getElem?_eq_getElem hj]; rfl
theorem redB_lt : ∀ {B : List Nat} {n : Nat}, (∀ c, c ∈ B → c < 4294967296) → n < 4294967296 → redB B n < 4294967296
  | [], n, _, h => h
  | b :: B, n, hB, h => by
    show redB B (min n (n ^^^ b)) < 4294967296
    refine redB_lt (fun c hc => hB c (List.mem_cons_of_mem _ hc)) ?_
    exact Nat.lt_of_le_of_lt (Nat.min_le_left _ _) h
theorem basK_lt {g : Nat → Nat} {n : Nat} (h : ∀ q, q < n → g q < 4294967296) : ∀ k, k ≤ n → ∀ c, c ∈ basK g k → c < 4294967296
  | 0, _, c, hc => by simp [basK, basF] at hc
  | k + 1, hk, c, hc => by
    have ih := basK_lt h k (by omega)
    rw [basK_succ] at hc
    split at hc
    · exact ih c hc
    · rcases List.mem_append.1 hc with hc | hc
      · exact ih c hc
      · rw [List.mem_singleton.1 hc]; exact redB_lt ih (h k (by omega))
theorem redP_lt {B : List Nat} {n : Nat} (hB : ∀ c, c ∈ B → c < 4294967296) (h : n < 4294967296) (j : Nat) : redP B n j < 4294967296 := redB_lt (fun c hc => hB c (List.mem_of_mem_take hc)) h
/-- Numbers as whole ones. -/
def cI (B : List Nat) : List Int := B.map fun (x : Nat) => (x : Int)
theorem cI_len (B : List Nat) : (cI B).length = B.length := by simp [cI]
theorem cI_snoc (B : List Nat) (x : Nat) : cI B ++ [(x : Int)] = cI (B ++ [x]) := by simp [cI]
theorem cI_at {B : List Nat} {j : Nat} (hj : j < B.length) : (cI B).getD j 0 = ((B.getD j 0 : Nat) : Int) := by
  unfold cI
  rw [List.getD_eq_getElem?_getD, List.getElem?_map, List.getElem?_eq_getElem hj, List.getD_eq_getElem?_getD, List.getElem?_eq_getElem hj]; rfl
theorem minI (a b : Nat) : (if (b : Int) < (a : Int) then (b : Int) else (a : Int)) = ((min a b : Nat) : Int) := by
  rw [Nat.min_def]
  split <;> split <;> omega
theorem bad_first (p : Nat → Bool) : ∀ n, (∀ j, j < n → p j = true) ∨ ∃ q, q < n ∧ (∀ j, j < q → p j = true) ∧ p q = false
  | 0 => .inl fun j hj => absurd hj (Nat.not_lt_zero j)
  | n + 1 => by
    rcases bad_first p n with h | ⟨q, h1, h2⟩
    · by_cases hp : p n = true
      · refine .inl fun j hj => ?_
        by_cases e : j = n
        · rw [e]; exact hp
        · exact h j (by omega)
      · exact .inr ⟨n, by omega, h, by simpa using hp⟩
    · exact .inr ⟨q, by omega, h2⟩
end Go.Proofs.Ytkgiocoiojdgfaa
