/- A part of the proof of FnBranches. -/
import Derived.Lib.SplitLaws
import Derived.Lib.Join
import Derived.Lib.Replace
import Derived.Lib.ItoaNum
import Derived.Lib.AppendIntMem
import Derived.Test.YtalbdgkbinndlaaDoorQBRH
import Derived.Test.YtalbdgkbinndlaaDoorQBR0
import Derived.Test.YtalbdgkbinndlaaDoorQBR1
/- Powers and orders in a field. Plain. -/
namespace Go.Proofs.YtalbdgkbinndlaaDoor
set_option linter.unusedSimpArgs false
set_option linter.unusedVariables false
set_option maxRecDepth 20000
set_option maxHeartbeats 1000000
open Go.Abs

def powN (m : Nat) (a : UInt8) : Nat → UInt8
  | 0 => 1
  | n + 1 => tm m (powN m a n) a
section
variable {m : Nat} (h0 : 256 ≤ m) (h1 : m < 512)
include h0 h1
theorem powN_add (a : UInt8) (i : Nat) : ∀ j, powN m a (i + j) = tm m (powN m a i) (powN m a j)
  | 0 => (tm_oneR h0 h1 _).symm
  | j + 1 => by
    show tm m (powN m a (i + j)) a = tm m (powN m a i) (tm m (powN m a j) a)
    rw [powN_add a i j, tm_assoc h0 h1]
theorem powN_mul (a : UInt8) (i : Nat) : ∀ j, powN m a (i * j) = powN m (powN m a i) j
  | 0 => rfl
  | j + 1 => by
    rw [Nat.mul_succ, powN_add h0 h1, powN_mul a i j]; rfl
theorem powN_one : ∀ n, powN m 1 n = 1
  | 0 => rfl
  | n + 1 => by show tm m (powN m 1 n) 1 = 1; rw [powN_one n, tm_one h0 h1]
theorem sqP_pow (a : UInt8) : ∀ i, sqP m a i = powN m a (2 ^ i)
  | 0 => by show a = tm m 1 a; rw [tm_one h0 h1]
  | i + 1 => by
    show tm m (sqP m a i) (sqP m a i) = _
    rw [sqP_pow a i, ← powN_add h0 h1, ← Nat.two_mul, Nat.pow_succ, Nat.mul_comm]
theorem poP_pow (a : UInt8) (e : Nat) : ∀ i, poP m a e i = powN m a (e % 2 ^ i)
  | 0 => by rw [Nat.pow_zero, Nat.mod_one]; rfl
  | i + 1 => by
    have hm : e % 2 ^ (i + 1) = e % 2 ^ i + 2 ^ i * (e / 2 ^ i % 2) := Nat.mod_pow_succ
    cases hb : e.testBit i
    · rw [poP_f hb, poP_pow a e i, hm]
      have : e / 2 ^ i % 2 = 0 := by
        rw [Nat.testBit_eq_decide_div_mod_eq] at hb
        have := of_decide_eq_false hb
        omega
      rw [this, Nat.mul_zero, Nat.add_zero]
    · rw [poP_t hb, poP_pow a e i, sqP_pow h0 h1, hm]
      have : e / 2 ^ i % 2 = 1 := by
        rw [Nat.testBit_eq_decide_div_mod_eq] at hb
        exact of_decide_eq_true hb
      rw [this, Nat.mul_one, powN_add h0 h1]
theorem po_pow (a : UInt8) (e : Nat) : po m a e = powN m a e := by
  unfold po
  rw [poP_pow h0 h1, Nat.mod_eq_of_lt (lt_blen e)]
end

/-- The order of an element, at most 256. -/
def ordN (m : Nat) (a : UInt8) : Nat := 1 + skip (fun k => powN m a k != 1) 255 1
theorem ordN_lt {m : Nat} {a : UInt8} {k : Nat} (hk : 0 < k) (h : k < ordN m a) : powN m a k ≠ 1 := by
  unfold ordN at h
  have := skip_go _ _ (k - 1) (show k - 1 < skip (fun k => powN m a k != 1) 255 1 by omega)
  rw [show 1 + (k - 1) = k by omega] at this
  simpa using this
theorem ordN_pos (m : Nat) (a : UInt8) : 1 ≤ ordN m a := Nat.le_add_right _ _
theorem ordN_le {m : Nat} {a : UInt8} {k : Nat} (hk : 0 < k) (h : powN m a k = 1) : ordN m a ≤ k := by
  rcases Nat.lt_or_ge k (ordN m a) with h2 | h2
  · exact absurd h (ordN_lt hk h2)
  · exact h2
theorem ordN_is {m : Nat} {a : UInt8} (h : powN m a 255 = 1) : powN m a (ordN m a) = 1 := by
  have hl := ordN_le (by omega) h
  unfold ordN at *
  have := skip_end (p := fun k => powN m a k != 1) 255 1 (by omega)
  simpa using this
theorem ordN_dvd {m : Nat} (h0 : 256 ≤ m) (h1 : m < 512) {a : UInt8} {k : Nat} (h : powN m a 255 = 1) (hk : powN m a k = 1) : k % ordN m a = 0 := by
  have hp := ordN_pos m a
  have ho := ordN_is h
  rcases Nat.eq_zero_or_pos (k % ordN m a) with h2 | h2
  · exact h2
  · refine absurd ?_ (ordN_lt h2 (Nat.mod_lt k hp))
    have e := Nat.div_add_mod k (ordN m a)
    rw [← e, powN_add h0 h1, powN_mul h0 h1, ho, powN_one h0 h1, tm_one h0 h1] at hk
    exact hk

def chkG (m g : Nat) : Bool := po m (UInt8.ofNat g) 255 == 1 && (po m (UInt8.ofNat g) 85 != 1 && (po m (UInt8.ofNat g) 51 != 1 && po m (UInt8.ofNat g) 15 != 1))
def findG (m : Nat) : Nat → Nat → Nat
  | 0, g => g
  | f + 1, g => if chkG m g then g else findG m f (g + 1)
theorem gen_all : ∀ i, i < 256 → fieldB (i + 256) = true → 2 ≤ findG (i + 256) 100 2 ∧ findG (i + 256) 100 2 < 256 ∧ chkG (i + 256) (findG (i + 256) 100 2) = true := by decide +kernel
theorem dvd255 : ∀ d, d < 255 → 0 < d → 255 % d = 0 → 85 % d = 0 ∨ 51 % d = 0 ∨ 15 % d = 0 := by decide +kernel
theorem gen_ex {m : Nat} (h0 : 256 ≤ m) (h1 : m < 512) (hf : fieldB m = true) : ∃ g, 2 ≤ g ∧ g < 256 ∧ powN m (UInt8.ofNat g) 255 = 1 ∧ ordN m (UInt8.ofNat g) = 255 := by
  have := gen_all (m - 256) (by omega) (by rw [show m - 256 + 256 = m by omega]; exact hf)
  rw [show m - 256 + 256 = m by omega] at this
  obtain ⟨a1, a2, a3⟩ := this
  generalize findG m 100 2 = g at *
  unfold chkG at a3
  simp only [Bool.and_eq_true, beq_iff_eq, bne_iff_ne, po_pow h0 h1] at a3
  obtain ⟨b1, b2, b3, b4⟩ := a3
  refine ⟨g, a1, a2, b1, ?_⟩
  have hl := ordN_le (by omega) b1
  have hp := ordN_pos m (UInt8.ofNat g)
  have hd := ordN_dvd h0 h1 b1 b1
  have ho := ordN_is b1
  rcases Nat.lt_or_ge (ordN m (UInt8.ofNat g)) 255 with h | h
  · have key : ∀ k, k % ordN m (UInt8.ofNat g) = 0 → powN m (UInt8.ofNat g) k = 1 := fun k hk => by
      have e := Nat.div_add_mod k (ordN m (UInt8.ofNat g))
      rw [hk, Nat.add_zero] at e
      rw [← e, powN_mul h0 h1, ho, powN_one h0 h1]
    rcases dvd255 _ h hp hd with h2 | h2 | h2
    · exact absurd (key _ h2) b2
    · exact absurd (key _ h2) b3
    · exact absurd (key _ h2) b4
  · omega
theorem tm_zeroL (m : Nat) {a : UInt8} (h0 : 256 ≤ m) (h1 : m < 512) : tm m 0 a = 0 := by rw [tm_comm h0 h1]; exact tm_zeroR m a
/-- Fermat's law. -/
theorem pow255 {m : Nat} (h0 : 256 ≤ m) (h1 : m < 512) (hf : fieldB m = true) {a : UInt8} (ha : a ≠ 0) : powN m a 255 = 1 := by
  obtain ⟨g, _, _, hg, ho⟩ := gen_ex h0 h1 hf
  generalize UInt8.ofNat g = w at *
  have nz : ∀ i, i ≤ 255 → powN m w i ≠ 0 := fun i hi e => by
    have : powN m w (i + (255 - i)) = 0 := by rw [powN_add h0 h1, e, tm_zeroL m h0 h1]
    rw [show i + (255 - i) = 255 by omega, hg] at this
    exact absurd this (by decide)
  have inj : ∀ i j, i < 255 → j < 255 → i < j → powN m w i ≠ powN m w j := fun i j hi hj hij e => by
    have h2 : powN m w (i + (255 - i)) = powN m w (j + (255 - i)) := by rw [powN_add h0 h1, e, ← powN_add h0 h1]
    rw [show i + (255 - i) = 255 by omega, show j + (255 - i) = (j - i) + 255 by omega, powN_add h0 h1 w (j - i) 255, hg, tm_oneR h0 h1] at h2
    exact ordN_lt (show 0 < j - i by omega) (by rw [ho]; omega) h2.symm
  have hpos : ∀ x : UInt8, x ≠ 0 → 0 < x.toNat := fun x hx => Nat.pos_of_ne_zero fun e => hx (UInt8.toNat.inj e)
  obtain ⟨i, hi, e⟩ := inj_surj 255 (fun i => (powN m w i).toNat - 1)
    (fun i hi => by have h2 := u8_lt (powN m w i); have h3 := hpos _ (nz i (by omega)); show (powN m w i).toNat - 1 < 255; omega)
    (fun i j hi hj e => by
      have e' : (powN m w i).toNat - 1 = (powN m w j).toNat - 1 := e
      have h3 := hpos _ (nz i (by omega))
      have h4 := hpos _ (nz j (by omega))
      have h5 : powN m w i = powN m w j := UInt8.toNat.inj (by omega)
      rcases Nat.lt_trichotomy i j with h | h | h
      · exact absurd h5 (inj i j hi hj h)
      · exact h
      · exact absurd h5.symm (inj j i hj hi h))
    (a.toNat - 1) (by have := u8_lt a; have := hpos a ha; omega)
  have e' : (powN m w i).toNat - 1 = a.toNat - 1 := e
  have h3 := hpos _ (nz i (by omega))
  have h4 := hpos a ha
  have h5 : powN m w i = a := UInt8.toNat.inj (by omega)
  rw [← h5, ← powN_mul h0 h1, Nat.mul_comm, powN_mul h0 h1, hg, powN_one h0 h1]
theorem tm_inv {m : Nat} (h0 : 256 ≤ m) (h1 : m < 512) (hf : fieldB m = true) {a : UInt8} (ha : a ≠ 0) : tm m a (inv m a) = 1 := by
  unfold inv
  rw [po_pow h0 h1, tm_comm h0 h1]
  exact pow255 h0 h1 hf ha
end Go.Proofs.YtalbdgkbinndlaaDoor
/- What the laws of functions share: draws told with memory opaque. -/
namespace Go.Proofs.YtalbdgkbinndlaaDoor
set_option linter.unusedSimpArgs false
set_option linter.unusedVariables false
set_option maxRecDepth 20000
set_option maxHeartbeats 1000000
open Go.Abs

theorem app_app {h H L : List Blk} (e : ∃ A, H = h ++ A) : ∃ A, H ++ L = h ++ A := by
  obtain ⟨A, rfl⟩ := e
  exact ⟨A ++ L, List.append_assoc ..⟩
theorem app_len {h H : List Blk} (e : ∃ A, H = h ++ A) : h.length ≤ H.length := by
  obtain ⟨A, rfl⟩ := e
  simp
theorem big_ac {h : List Blk} {cv : Value} (c : Cv h cv) : AC Tryd.prog 4 [cv] h (.bool false) h := by
  cases c with
  | nil =>
    (refine AC_begin (fun _ _ => Tryd.call4 _ _) Tryd.func4 rfl Tryd.ntmps4 Tryd.results4 (fun hwf => ?_); simp only [List.length_cons, List.length_nil, Nat.reduceAdd, Nat.reduceSub, List.replicate, List.cons_append, List.nil_append])
    (refine sN0 ?_)
    (exact sR0)
  | @sl bc n f rc hb hn =>
    (refine AC_begin (fun _ _ => Tryd.call4 _ _) Tryd.func4 rfl Tryd.ntmps4 Tryd.results4 (fun hwf => ?_); simp only [List.length_cons, List.length_nil, Nat.reduceAdd, Nat.reduceSub, List.replicate, List.cons_append, List.nil_append])
    (refine sN (show decide (4096 < n) = false from decide_eq_false (by omega)) ?_)
    (exact sR0)
theorem big_long {b n : Nat} (hn : 4096 < n) (hn2 : n ≤ 9223372036854775807) (h : List Blk) : AC Tryd.prog 4 [sl b 0 n 1] h (.bool true) h := by
  (refine AC_begin (fun _ _ => Tryd.call4 _ _) Tryd.func4 rfl Tryd.ntmps4 Tryd.results4 (fun hwf => ?_); simp only [List.length_cons, List.length_nil, Nat.reduceAdd, Nat.reduceSub, List.replicate, List.cons_append, List.nil_append])
  (refine sN (show decide (4096 < n) = true from decide_eq_true hn) ?_)
  (exact sR0)

end Go.Proofs.YtalbdgkbinndlaaDoor
/- Draws for the law on matrices. -/
namespace Go.Proofs.YtalbdgkbinndlaaDoor
set_option linter.unusedSimpArgs false
set_option linter.unusedVariables false
set_option maxRecDepth 20000
set_option maxHeartbeats 1000000
open Go.Abs

/-- Behind a region and the test that follows it the state is told. -/
theorem WA_mid2 {P : Program} {n0 : Nat} {a b c : Code} {Q Q' Q'' : Exit → AS → Prop} {t : List Value} {H : List Blk} (ps : List (Nat × Value)) (H' : List Blk)
    (h : WA P n0 a (Then (WA P n0 b (Then (fun s' => Drop n0 s' ⟨patT t ps, H'⟩) Q')) Q'') ⟨t, H⟩) (h2 : WA P n0 c Q ⟨patT t ps, H'⟩) : WA P n0 a (Then (WA P n0 b (Then (WA P n0 c Q) Q')) Q'') ⟨t, H⟩ :=
  WA_mono h fun e s' hq => by
    cases e <;> first
      | exact WA_mono hq fun e s'' hd => by cases e <;> first | exact WA_pre hd h2 | exact hd
      | exact hq
theorem one_ex {h : List Blk} {cv : Value} (c : Cv h cv) : ∃ (m : Int) (f : Nat → UInt8) (L : List Blk), AC Tryd.prog 23 [cv] h (.tuple #[.int .i64 m, .agg (Bs 16 f).toArray]) (h ++ L) := by
  obtain ⟨h1, s1, e1, c1⟩ := from_aft (c.app [⟨Bs 16 zeroF, true⟩])
  have hlA : (h ++ [(⟨Bs 16 zeroF, true⟩ : Blk)]).length = h.length + 1 := by simp
  rw [hlA] at s1 c1
  have hl1 := s1.lt
  have hR0 : (h1)[h.length]? = some ⟨Bs 16 zeroF, true⟩ := by obtain ⟨L, rfl⟩ := e1; simp
  obtain ⟨m, h2, a2, c2⟩ := spoil_aft s1
  obtain ⟨f, h3, a3, c3⟩ := l03Draw_aft a2.src m
  have A := a2.trans a3
  have hR3 := A.keep _ _ (by omega) hR0
  have hlen : h.length ≤ h3.length := by have := A.len; omega
  obtain ⟨L, e⟩ : ∃ L, h3.set h.length ⟨Bs 16 f, true⟩ = h ++ L := by
    obtain ⟨L1, r1⟩ := A.app h (by omega) (by obtain ⟨L, rfl⟩ := e1; exact ⟨_, List.append_assoc ..⟩)
    obtain ⟨L2, r2⟩ := app_set' (h0 := h) (L := L1) (i := h.length) (Nat.le_refl _) ⟨Bs 16 f, true⟩
    exact ⟨L2, by rw [r1, r2]⟩
  refine ⟨m, f, L, ?_⟩
  rw [← e]
  (refine AC_begin (fun _ _ => Tryd.call23 _ _) Tryd.func23 rfl Tryd.ntmps23 Tryd.results23 (fun hwf => ?_); simp only [List.length_cons, List.length_nil, Nat.reduceAdd, Nat.reduceSub, List.replicate, List.cons_append, List.nil_append])
  (refine sW @hR3 (And.intro @c1 (And.intro @c2 @c3)) ?_)
  refine ret_full (by first | exact .inr rfl | exact .inl rfl) (by simpa using hlen) ?_
  simp (maxSteps := 1000000) (disch := first | omega | rfl | decide | (simp only [List.length_cons, List.length_nil, List.length_append, LV] <;> omega)) only [go_sem, Nat.reduceAdd, Int.reduceAdd, Int.reduceSub, Int.reduceMul, Bool.not_true, Bool.not_false, look_set (blt hR3)]
  try rfl

end Go.Proofs.YtalbdgkbinndlaaDoor
/- Which boxes and places are permutations, which matrices have inverses: networks and ciphers. -/
namespace Go.Proofs.YtalbdgkbinndlaaDoor
set_option linter.unusedSimpArgs false
set_option linter.unusedVariables false
set_option maxRecDepth 20000
set_option maxHeartbeats 1000000
open Go.Abs

theorem twice_iff (f : Nat → UInt8) (n : Nat) : twiceP f n = false ↔ ∀ i j, i < n → j < n → f i = f j → i = j := by
  have key : twiceP f n = true ↔ ∃ i j, i < n ∧ j < i ∧ f i = f j := by
    unfold twiceP twiceAt
    simp only [List.any_eq_true, List.mem_range, beq_iff_eq]
    constructor
    · rintro ⟨i, hi, j, hj, e⟩; exact ⟨i, j, hi, hj, e⟩
    · rintro ⟨i, j, hi, hj, e⟩; exact ⟨i, hi, j, hj, e⟩
  constructor
  · intro h i j hi hj e
    rcases Nat.lt_trichotomy i j with h1 | h1 | h1
    · exact absurd (key.2 ⟨j, i, hj, h1, e.symm⟩) (by rw [h]; decide)
    · exact h1
    · exact absurd (key.2 ⟨i, j, hi, h1, e⟩) (by rw [h]; decide)
  · intro h
    cases ht : twiceP f n with
    | false => rfl
    | true => obtain ⟨i, j, hi, hj, e⟩ := key.1 ht; have := h i j hi (by omega) e; omega
/-- How many places ahead of the first falsehood. -/
def allT (f : Nat → Bool) (n : Nat) : Bool := (List.range n).all f
theorem allT_s {f : Nat → Bool} {k : Nat} (h : allT f k = true) (h2 : f k = true) : allT f (k + 1) = true := by
  unfold allT at *; rw [List.range_succ, List.all_append, h]; simpa using h2
/-- Whether 16 bytes are a permutation of the places. -/
def plRange (f : Nat → UInt8) (k : Nat) : Bool := (List.range k).all fun i => decide ((f i).toNat < 16)
def plOk (f : Nat → UInt8) : Bool := plRange f 16 && !twiceP f 16
end Go.Proofs.YtalbdgkbinndlaaDoor
/- Matrices: the reduction's second half undoes the first; mixing is additive. Plain. -/
namespace Go.Proofs.YtalbdgkbinndlaaDoor
set_option linter.unusedSimpArgs false
set_option linter.unusedVariables false
set_option maxRecDepth 20000
set_option maxHeartbeats 1000000
open Go.Abs

/-- The sum of the first n products. -/
def dt (m : Nat) (r y : Nat → UInt8) : Nat → UInt8
  | 0 => 0
  | n + 1 => dt m r y n ^^^ tm m (r n) (y n)
theorem dt_cong {m : Nat} {r s y z : Nat → UInt8} : ∀ {n : Nat}, (∀ t, t < n → r t = s t) → (∀ t, t < n → y t = z t) → dt m r y n = dt m s z n
  | 0, _, _ => rfl
  | n + 1, h, h2 => by
    show dt m r y n ^^^ tm m (r n) (y n) = dt m s z n ^^^ tm m (s n) (z n)
    rw [dt_cong (fun t ht => h t (by omega)) (fun t ht => h2 t (by omega)), h n (by omega), h2 n (by omega)]
theorem xor4 (a b c d : UInt8) : (a ^^^ b) ^^^ (c ^^^ d) = (a ^^^ c) ^^^ (b ^^^ d) := by
  rw [UInt8.xor_assoc, UInt8.xor_assoc, ← UInt8.xor_assoc b c d, ← UInt8.xor_assoc c b d, UInt8.xor_comm b c]
section
variable {m : Nat} (h0 : 256 ≤ m) (h1 : m < 512)
include h0 h1
theorem dt_xor (r s y : Nat → UInt8) : ∀ n, dt m (fun t => r t ^^^ s t) y n = dt m r y n ^^^ dt m s y n
  | 0 => UInt8.xor_self.symm
  | n + 1 => by
    show dt m (fun t => r t ^^^ s t) y n ^^^ tm m (r n ^^^ s n) (y n) = (dt m r y n ^^^ tm m (r n) (y n)) ^^^ (dt m s y n ^^^ tm m (s n) (y n))
    rw [dt_xor r s y n, tm_xorL h0 h1, xor4]
omit h0 h1 in
theorem dt_xorR (r y z : Nat → UInt8) : ∀ n, dt m r (fun t => y t ^^^ z t) n = dt m r y n ^^^ dt m r z n
  | 0 => UInt8.xor_self.symm
  | n + 1 => by
    show dt m r (fun t => y t ^^^ z t) n ^^^ tm m (r n) (y n ^^^ z n) = (dt m r y n ^^^ tm m (r n) (y n)) ^^^ (dt m r z n ^^^ tm m (r n) (z n))
    rw [dt_xorR r y z n, tm_xor, xor4]
theorem dt_sclL (r y : Nat → UInt8) (f : UInt8) : ∀ n, dt m (fun t => tm m f (r t)) y n = tm m f (dt m r y n)
  | 0 => (tm_zeroR m f).symm
  | n + 1 => by
    show dt m (fun t => tm m f (r t)) y n ^^^ tm m (tm m f (r n)) (y n) = tm m f (dt m r y n ^^^ tm m (r n) (y n))
    rw [dt_sclL r y f n, tm_xor, tm_assoc h0 h1]
end
/-- Row i of a matrix times a column. -/
def D (m : Nat) (x z : Nat → UInt8) (i : Nat) : UInt8 := dt m (fun t => x (i * 4 + t)) z 4
section
variable {m : Nat} (h0 : 256 ≤ m) (h1 : m < 512)
include h0 h1
end
section
variable {m : Nat} (h0 : 256 ≤ m) (h1 : m < 512)
theorem mix_D (a b : Nat → UInt8) (c i : Nat) : mxP m a b c i 4 = D m a (fun t => b (4 * c + t)) i := rfl
end
end Go.Proofs.YtalbdgkbinndlaaDoor
/- Texts of bytes, powers of boxes. Plain. -/
namespace Go.Proofs.YtalbdgkbinndlaaDoor
set_option linter.unusedSimpArgs false
set_option linter.unusedVariables false
set_option maxRecDepth 20000
set_option maxHeartbeats 1000000
open Go.Abs

def hexA : Array UInt8 := #[48, 49, 50, 51, 52, 53, 54, 55, 56, 57, 97, 98, 99, 100, 101, 102]
def hexC (n : Nat) : UInt8 := hexA.getD n 0
/-- The text of the first n bytes. -/
def hx (f : Nat → UInt8) : Nat → List UInt8
  | 0 => []
  | k + 1 => hx f k ++ [hexC ((f k).toNat / 16), hexC ((f k).toNat % 16)]
theorem hx_len (f : Nat → UInt8) : ∀ n, (hx f n).length = 2 * n
  | 0 => rfl
  | n + 1 => by rw [hx, List.length_append, hx_len f n]; show 2 * n + 2 = _; omega
theorem hx_get (f : Nat → UInt8) : ∀ n i, i < 2 * n → (hx f n)[i]? = some (hexC (if i % 2 = 0 then (f (i / 2)).toNat / 16 else (f (i / 2)).toNat % 16))
  | 0, i, h => absurd h (by omega)
  | n + 1, i, h => by
    rw [hx]
    by_cases hi : i < 2 * n
    · rw [List.getElem?_append_left (by rw [hx_len]; exact hi)]; exact hx_get f n i hi
    · rw [List.getElem?_append_right (by rw [hx_len]; omega), hx_len]
      rcases (show i = 2 * n ∨ i = 2 * n + 1 by omega) with rfl | rfl
      · rw [Nat.sub_self, if_pos (by omega), show 2 * n / 2 = n by omega]; rfl
      · rw [show 2 * n + 1 - 2 * n = 1 by omega, if_neg (by omega), show (2 * n + 1) / 2 = n by omega]; rfl
def digOk (c : UInt8) : Bool := (decide (48 ≤ c) && decide (c ≤ 57)) || (decide (97 ≤ c) && decide (c ≤ 102))
def digV (c : UInt8) : UInt8 := if decide (48 ≤ c) && decide (c ≤ 57) then c - 48 else c - 97 + 10
theorem dig_hex : ∀ n, n < 16 → digOk (hexC n) = true ∧ (digV (hexC n)).toNat = n := by decide +kernel
theorem hex_dig0 : ∀ n, n < 256 → digOk (UInt8.ofNat n) = true → hexC (digV (UInt8.ofNat n)).toNat = UInt8.ofNat n ∧ (digV (UInt8.ofNat n)).toNat < 16 := by decide +kernel
theorem hex_dig {c : UInt8} (h : digOk c = true) : hexC (digV c).toNat = c ∧ (digV c).toNat < 16 := by
  have := hex_dig0 c.toNat (u8_lt c)
  rw [UInt8.ofNat_toNat] at this
  exact this h
/-- A sign of a text. -/
def ch (s : ByteArray) (i : Nat) : UInt8 := s.data.getD i 0
def gdP (s : ByteArray) (k : Nat) : Bool := digOk (ch s (2 * k)) && digOk (ch s (2 * k + 1))
def unV (s : ByteArray) (k : Nat) : UInt8 := UInt8.ofNat (16 * (digV (ch s (2 * k))).toNat + (digV (ch s (2 * k + 1))).toNat)
def hexOk (s : ByteArray) : Bool := s.size % 2 == 0 && allT (gdP s) (s.size / 2)
def hxT (f : Nat → UInt8) (n : Nat) : ByteArray := ⟨(hx f n).toArray⟩
theorem hxT_size (f : Nat → UInt8) (n : Nat) : (hxT f n).size = 2 * n := hx_len f n
theorem hxT_ch (f : Nat → UInt8) (n : Nat) {i : Nat} (hi : i < 2 * n) : ch (hxT f n) i = hexC (if i % 2 = 0 then (f (i / 2)).toNat / 16 else (f (i / 2)).toNat % 16) := by
  unfold ch hxT
  rw [Array.getD_eq_getD_getElem?, List.getElem?_toArray, hx_get f n i hi]; rfl
theorem hxT_good (f : Nat → UInt8) (n : Nat) : hexOk (hxT f n) = true ∧ ∀ k, k < n → unV (hxT f n) k = f k := by
  have hk : ∀ k, k < n → gdP (hxT f n) k = true ∧ unV (hxT f n) k = f k := fun k hk => by
    have hlt := u8_lt (f k)
    have e0 := hxT_ch f n (i := 2 * k) (by omega)
    have e1 := hxT_ch f n (i := 2 * k + 1) (by omega)
    rw [if_pos (by omega), show 2 * k / 2 = k by omega] at e0
    rw [if_neg (by omega), show (2 * k + 1) / 2 = k by omega] at e1
    have d0 := dig_hex ((f k).toNat / 16) (by omega)
    have d1 := dig_hex ((f k).toNat % 16) (by omega)
    unfold gdP unV
    rw [e0, e1, d0.1, d1.1, d0.2, d1.2]
    exact ⟨rfl, by rw [show 16 * ((f k).toNat / 16) + (f k).toNat % 16 = (f k).toNat by omega, UInt8.ofNat_toNat]⟩
  refine ⟨?_, fun k h => (hk k h).2⟩
  unfold hexOk
  rw [hxT_size, show 2 * n % 2 = 0 by omega, show 2 * n / 2 = n by omega]
  exact List.all_eq_true.2 fun k h => (hk k (List.mem_range.1 h)).1
end Go.Proofs.YtalbdgkbinndlaaDoor
/- Texts of bytes: signs and texts. -/
namespace Go.Proofs.YtalbdgkbinndlaaDoor
set_option linter.unusedSimpArgs false
set_option linter.unusedVariables false
set_option maxRecDepth 20000
set_option maxHeartbeats 1000000
open Go.Abs

theorem tab16 {P : Program} {T : TypeId} (hu : P.underlying T = some .string) (x : UInt8) (hx : x.toNat < 16) : indexA P T (.string ⟨#[48, 49, 50, 51, 52, 53, 54, 55, 56, 57, 97, 98, 99, 100, 101, 102]⟩) (B x) = some (B (hexC x.toNat)) := by
  have hs : (⟨#[48, 49, 50, 51, 52, 53, 54, 55, 56, 57, 97, 98, 99, 100, 101, 102]⟩ : ByteArray).size = 16 := rfl
  rw [ix_str_B hu, hs, aidx_nat hx, chrC_some (by rw [hs]; exact hx)]; rfl
theorem nib_hi : ∀ n, n < 256 → (UInt8.ofNat (n >>> 4)).toNat = n / 16 := by decide +kernel
theorem nib_lo : ∀ n, n < 256 → (UInt8.ofNat n &&& 15).toNat = n % 16 := by decide +kernel
theorem hi16 (x : UInt8) : (x / 16).toNat = x.toNat / 16 := UInt8.toNat_div x 16
theorem lo16 (x : UInt8) : (x % 16).toNat = x.toNat % 16 := UInt8.toNat_mod x 16
theorem shr16 (x : UInt8) : (UInt8.ofNat (x.toNat >>> 4)).toNat = x.toNat / 16 := nib_hi x.toNat (u8_lt x)
theorem and15 (x : UInt8) : (x &&& 15).toNat = x.toNat % 16 := by
  have := nib_lo x.toNat (u8_lt x)
  rwa [UInt8.ofNat_toNat] at this
theorem sub2 (v w : Value) : sub [v, w] 0 2 = [v, w] := rfl
theorem Bl_hx (f : Nat → UInt8) (k : Nat) : Bl (hx f k) ++ [B (hexC ((f k).toNat / 16)), B (hexC ((f k).toNat % 16))] = Bl (hx f (k + 1)) := by
  unfold Bl; rw [hx, List.map_append]; rfl
/-- What a digit is worth. -/
def digI (c : UInt8) : Int := if digOk c then ((digV c).toNat : Int) else -1
theorem digI_ac (c : UInt8) (h : List Blk) : AC Tryd.prog 69 [B c] h (.tuple #[B (if digOk c then digV c else 0), .bool (digOk c)]) h := by
  (refine AC_begin (fun _ _ => Tryd.call69 _ _) Tryd.func69 rfl Tryd.ntmps69 Tryd.results69 (fun hwf => ?_); simp only [List.length_cons, List.length_nil, Nat.reduceAdd, Nat.reduceSub, List.replicate, List.cons_append, List.nil_append])
  cases e1 : decide (48 ≤ c) <;> cases e2 : decide (c ≤ 57) <;> cases e3 : decide (97 ≤ c) <;> cases e4 : decide (c ≤ 102)
  all_goals ((refine sN (And.intro @e1 (And.intro @e2 (And.intro @e3 (And.intro @e4 (And.intro (@yieldA_at 2 7) (@yieldA_at 2 16)))))) ?_))
  all_goals ((exact sR (And.intro @digOk.eq_1 (And.intro @digV.eq_1 (And.intro @e1 (And.intro @e2 (And.intro @e3 (And.intro @e4 (And.intro @Bool.and_true (And.intro @Bool.and_false (And.intro @Bool.or_true @Bool.or_false)))))))))))

theorem hexI_ac {h : List Blk} {b n : Nat} {f : Nat → UInt8} {r : Bool} (hb : h[b]? = some ⟨Bs n f, r⟩) (hn : n ≤ 1000000) : AC Tryd.prog 42 [sl b 0 n 1] h (.string (hxT f n)) h := by
  have hbl := blt hb
  (refine AC_begin (fun _ _ => Tryd.call42 _ _) Tryd.func42 rfl Tryd.ntmps42 Tryd.results42 (fun hwf => ?_); simp only [List.length_cons, List.length_nil, Nat.reduceAdd, Nat.reduceSub, List.replicate, List.cons_append, List.nil_append])
  (refine sN0 ?_)
  refine WA_forP (fun k => [(3, sl h.length 0 (2 * k) 1), (5, J), (6, J), (9, .int .i64 k), (10, J), (11, J), (12, J), (13, J), (14, J), (15, J), (16, J), (17, J), (18, J), (19, J), (20, J), (21, J), (22, J)]) (fun k => [(0, ⟨Bl (hx f k), true⟩)]) (n) ?_ ?_ ?_ <;> (try simp only [patT_cons, patT_nil, patL_cons, patL_nil, list_set_zero, list_set_succ, blk_set_zero, blk_set_succ])
  · (refine Drop_slots (by first | exact Nat.le_refl _ | simp) ?_; focus ((try simp only [JL_same, JL_J, JL_nil, Int.reduceAdd, Nat.sub_sub, Int.natCast_add, Int.natCast_one, Int.natCast_zero, Int.cast_ofNat_Int, Nat.add_zero, Bool.false_eq_true, if_false, if_true, hx]); (try exact JL_refl _)))
  · intro k hk
    have hx1 := tab16 (P := Tryd.prog) (T := 9) (by kernel_rfl) (UInt8.ofNat ((f k).toNat >>> 4)) (by rw [shr16]; have := u8_lt (f k); omega)
    have hx2 := tab16 (P := Tryd.prog) (T := 9) (by kernel_rfl) (f k &&& 15) (by rw [and15]; omega)
    have hsh : abin Tryd.prog .shr 5 (B (f k)) (.int .u64 4) = some (B (UInt8.ofNat ((f k).toNat >>> 4))) := abin_shr_B (f k) .u64 4
    rw [shr16] at hx1
    rw [and15] at hx2
    have hl := hx_len f k
    (repeat (first | ((first | (refine And.intro ?_ ?_; focus exact PLA) | refine WA_seq (WA_region ?_) | refine WA_region ?_ | refine WA_exit ?_); try simp (maxSteps := 1000000) (disch := first | omega | rfl | decide | (simp only [List.length_cons, List.length_nil, List.length_append, LV] <;> omega)) only [go_sem, Nat.reduceAdd, Int.reduceAdd, Int.reduceSub, Int.reduceMul, Bool.not_true, Bool.not_false, look_old hb, hsh, hx1, hx2, hl, sub2, Bl_hx]) | (refine (WA_rb (id := 5) [7, 8] (SubM.refl _) mixedOk ?_); simp only [List.size_toArray, List.length_cons, List.length_nil]; (repeat (first | ((first | (refine And.intro ?_ ?_; focus exact PLA) | refine RB_take false [0, 1, 2, 3, 4, 5, 6] 3 (by rfl) (by kernel_rfl) (by decide) (by decide +kernel) ?_ | refine RB_exec 7 _ (by rfl) (by decide +kernel) (by decide +kernel) ?_ | refine RB_exec 8 _ (by rfl) (by decide +kernel) (by decide +kernel) ?_ | refine RB_take false [9] 0 (by rfl) (by kernel_rfl) (by decide) (by decide +kernel) ?_ | refine RB_done (by decide +kernel) ?_); try simp (maxSteps := 1000000) (disch := first | omega | rfl | decide | (simp only [List.length_cons, List.length_nil, List.length_append, LV] <;> omega)) only [go_sem, Nat.reduceAdd, Int.reduceAdd, Int.reduceSub, Int.reduceMul, Bool.not_true, Bool.not_false, look_old hb, hsh, hx1, hx2, hl, sub2, Bl_hx])))) | refine WA_seq ?_ | refine WA_block ?_ | (refine WA_skip ?_; try simp only [go_sem]) | (refine WA_ret ?_; try simp only [go_sem]) | refine WA_ct rfl ?_ | refine WA_cf rfl ?_))
    (exact gC [2])
  · have hln := hx_len f n
    (refine sN0 ?_)
    (exact sR @hxT.eq_1)

theorem hexS_ac {h : List Blk} {b n : Nat} {f : Nat → UInt8} {r : Bool} (hb : h[b]? = some ⟨Bs n f, r⟩) (hn : n ≤ 1000000) : AC Tryd.prog 70 [sl b 0 n 1] h (.string (hxT f n)) h := by
  have hbl := blt hb
  (refine AC_begin (fun _ _ => Tryd.call70 _ _) Tryd.func70 rfl Tryd.ntmps70 Tryd.results70 (fun hwf => ?_); simp only [List.length_cons, List.length_nil, Nat.reduceAdd, Nat.reduceSub, List.replicate, List.cons_append, List.nil_append])
  (refine sN0 ?_)
  refine WA_forP (fun k => [(4, sl h.length 0 (2 * k) 1), (5, .int .i64 k), (6, J), (7, J), (8, J), (9, J), (10, J), (11, J), (12, J), (13, J), (14, J), (15, J), (16, J), (17, J), (18, J), (19, J), (20, J), (21, J), (22, J), (23, J), (24, J), (25, J), (26, J), (27, J), (28, J), (29, J)]) (fun k => [(0, ⟨Bl (hx f k), true⟩)]) (n) ?_ ?_ ?_ <;> (try simp only [patT_cons, patT_nil, patL_cons, patL_nil, list_set_zero, list_set_succ, blk_set_zero, blk_set_succ])
  · (refine Drop_slots (by first | exact Nat.le_refl _ | simp) ?_; focus ((try simp only [JL_same, JL_J, JL_nil, Int.reduceAdd, Nat.sub_sub, Int.natCast_add, Int.natCast_one, Int.natCast_zero, Int.cast_ofNat_Int, Nat.add_zero, Bool.false_eq_true, if_false, if_true, hx]); (try exact JL_refl _)))
  · intro k hk
    have hx1 := tab16 (P := Tryd.prog) (T := 9) (by kernel_rfl) (f k / 16) (by rw [hi16]; have := u8_lt (f k); omega)
    have hx2 := tab16 (P := Tryd.prog) (T := 9) (by kernel_rfl) (f k % 16) (by rw [lo16]; omega)
    rw [hi16] at hx1
    rw [lo16] at hx2
    have hl := hx_len f k
    (repeat (first | ((first | (refine And.intro ?_ ?_; focus exact PLA) | refine WA_seq (WA_region ?_) | refine WA_region ?_ | refine WA_exit ?_); try simp (maxSteps := 1000000) (disch := first | omega | rfl | decide | (simp only [List.length_cons, List.length_nil, List.length_append, LV] <;> omega)) only [go_sem, Nat.reduceAdd, Int.reduceAdd, Int.reduceSub, Int.reduceMul, Bool.not_true, Bool.not_false, look_old hb, hx1, hx2, hl, sub2, Bl_hx]) | (refine (WA_rb (id := 5) [15, 16] (SubM.refl _) mixedOk ?_); simp only [List.size_toArray, List.length_cons, List.length_nil]; (repeat (first | ((first | (refine And.intro ?_ ?_; focus exact PLA) | refine RB_take false [0, 1, 2, 3, 4, 8, 9, 10, 11] 9 (by rfl) (by kernel_rfl) (by decide) (by decide +kernel) ?_ | refine RB_take true [5, 12] 7 (by rfl) (by kernel_rfl) (by decide) (by decide +kernel) ?_ | refine RB_take false [6, 7, 13, 14] 3 (by rfl) (by kernel_rfl) (by decide) (by decide +kernel) ?_ | refine RB_exec 15 _ (by rfl) (by decide +kernel) (by decide +kernel) ?_ | refine RB_exec 16 _ (by rfl) (by decide +kernel) (by decide +kernel) ?_ | refine RB_take false [17] 0 (by rfl) (by kernel_rfl) (by decide) (by decide +kernel) ?_ | refine RB_done (by decide +kernel) ?_); try simp (maxSteps := 1000000) (disch := first | omega | rfl | decide | (simp only [List.length_cons, List.length_nil, List.length_append, LV] <;> omega)) only [go_sem, Nat.reduceAdd, Int.reduceAdd, Int.reduceSub, Int.reduceMul, Bool.not_true, Bool.not_false, look_old hb, hx1, hx2, hl, sub2, Bl_hx])))) | refine WA_seq ?_ | refine WA_block ?_ | (refine WA_skip ?_; try simp only [go_sem]) | (refine WA_ret ?_; try simp only [go_sem]) | refine WA_ct rfl ?_ | refine WA_cf rfl ?_))
    (exact gC [2])
  · have hln := hx_len f n
    (refine sN0 ?_)
    (exact sR @hxT.eq_1)

end Go.Proofs.YtalbdgkbinndlaaDoor
/- Draws for the law on boxes. -/
namespace Go.Proofs.YtalbdgkbinndlaaDoor
set_option linter.unusedSimpArgs false
set_option linter.unusedVariables false
set_option maxRecDepth 20000
set_option maxHeartbeats 1000000
open Go.Abs

theorem sg_at : ∀ x, x < 16 → ∃ c : ByteArray, c.size = 1 ∧ (([.string ⟨#[48]⟩, .string ⟨#[49]⟩, .string ⟨#[55]⟩, .string ⟨#[57]⟩, .string ⟨#[97]⟩, .string ⟨#[102]⟩, .string ⟨#[103]⟩, .string ⟨#[65]⟩, .string ⟨#[45]⟩, .string ⟨#[47]⟩, .string ⟨#[59]⟩, .string ⟨#[58]⟩, .string ⟨#[44]⟩, .string ⟨#[32]⟩, .string ⟨#[124]⟩, .string ⟨#[10]⟩] : List Value))[x]? = some (.string c)
  | 0, _ => ⟨⟨#[48]⟩, rfl, rfl⟩
  | 1, _ => ⟨⟨#[49]⟩, rfl, rfl⟩
  | 2, _ => ⟨⟨#[55]⟩, rfl, rfl⟩
  | 3, _ => ⟨⟨#[57]⟩, rfl, rfl⟩
  | 4, _ => ⟨⟨#[97]⟩, rfl, rfl⟩
  | 5, _ => ⟨⟨#[102]⟩, rfl, rfl⟩
  | 6, _ => ⟨⟨#[103]⟩, rfl, rfl⟩
  | 7, _ => ⟨⟨#[65]⟩, rfl, rfl⟩
  | 8, _ => ⟨⟨#[45]⟩, rfl, rfl⟩
  | 9, _ => ⟨⟨#[47]⟩, rfl, rfl⟩
  | 10, _ => ⟨⟨#[59]⟩, rfl, rfl⟩
  | 11, _ => ⟨⟨#[58]⟩, rfl, rfl⟩
  | 12, _ => ⟨⟨#[44]⟩, rfl, rfl⟩
  | 13, _ => ⟨⟨#[32]⟩, rfl, rfl⟩
  | 14, _ => ⟨⟨#[124]⟩, rfl, rfl⟩
  | 15, _ => ⟨⟨#[10]⟩, rfl, rfl⟩
  | n + 16, h => absurd h (by omega)
end Go.Proofs.YtalbdgkbinndlaaDoor
/- Texts cut at a sign. Plain. -/
namespace Go.Proofs.YtalbdgkbinndlaaDoor
set_option linter.unusedSimpArgs false
set_option linter.unusedVariables false
set_option maxRecDepth 20000
set_option maxHeartbeats 1000000
open Go.Abs

/-- A list cut at each c. -/
def cutL (c : UInt8) : List UInt8 → List (List UInt8)
  | [] => [[]]
  | b :: l => if b = c then [] :: cutL c l else match cutL c l with
    | [] => [[b]]
    | p :: ps => (b :: p) :: ps
def glue (x : List UInt8) : List (List UInt8) → List (List UInt8)
  | [] => [x]
  | p :: ps => (x ++ p) :: ps
theorem cutL_ne (c : UInt8) : ∀ l, ∃ p ps, cutL c l = p :: ps
  | [] => ⟨[], [], rfl⟩
  | b :: l => by
    obtain ⟨p, ps, e⟩ := cutL_ne c l
    unfold cutL
    split
    · exact ⟨_, _, rfl⟩
    · rw [e]; exact ⟨_, _, rfl⟩
theorem cutL_eq (c : UInt8) (l : List UInt8) : cutL c (c :: l) = [] :: cutL c l := by rw [cutL, if_pos rfl]
theorem cutL_other {b c : UInt8} (h : b ≠ c) (l : List UInt8) : cutL c (b :: l) = glue [b] (cutL c l) := by
  rw [cutL, if_neg h]
  cases cutL c l <;> rfl
theorem glue_nil {R : List (List UInt8)} (h : ∃ p ps, R = p :: ps) : glue [] R = R := by obtain ⟨p, ps, rfl⟩ := h; rfl
theorem glue_two (x y : List UInt8) {R : List (List UInt8)} (h : ∃ p ps, R = p :: ps) : glue x (glue y R) = glue (x ++ y) R := by obtain ⟨p, ps, rfl⟩ := h; simp [glue]
theorem index_other {b c : UInt8} (h : b ≠ c) (l : List UInt8) : Lib.index (b :: l) [c] = if Lib.index l [c] == -1 then -1 else Lib.index l [c] + 1 := by
  have hp : ([c] : List UInt8).isPrefixOf (b :: l) = false := by simp [List.isPrefixOf, Ne.symm h]
  rw [Lib.index, hp]; simp
theorem index_same (c : UInt8) (l : List UInt8) : Lib.index (c :: l) [c] = 0 := by rw [Lib.index]; simp [List.isPrefixOf]
/-- The library's cuts. -/
theorem splitK_cut (c : UInt8) : ∀ l : List UInt8, Lib.splitK [c] 0 (Lib.count l [c]) l = cutL c l
  | [] => by rw [Lib.count_one]; rfl
  | b :: l => by
    have ih := splitK_cut c l
    by_cases h : b = c
    · subst h
      rw [Lib.count_cons_eq, Nat.add_comm, Lib.splitK, index_same, if_neg (by decide), cutL_eq]
      show List.take 0 (b :: l) :: Lib.splitK [b] 0 (Lib.count l [b]) (List.drop 1 (b :: l)) = _
      rw [List.take_zero, List.drop_one, List.tail_cons, ih]
    · rw [Lib.count_cons_ne b c l h, cutL_other h, ← ih]
      by_cases hm : Lib.index l [c] = -1
      · rw [Lib.count_miss hm]; rfl
      · have hge := Lib.index_ge l [c]
        obtain ⟨j, hj⟩ : ∃ j : Nat, Lib.index l [c] = j := ⟨(Lib.index l [c]).toNat, by omega⟩
        have hc := Lib.count_hit (s := l) (sub := [c]) (by simp) hj
        obtain ⟨n, hn⟩ : ∃ n, Lib.count l [c] = n + 1 := ⟨_, by rw [hc, Nat.add_comm]⟩
        have hix : Lib.index (b :: l) [c] = ((j + 1 : Nat) : Int) := by
          rw [index_other h, if_neg (fun e => hm (beq_iff_eq.1 e)), hj]; omega
        have n1 : ¬ ((((j + 1 : Nat) : Int)) == -1) = true := fun e => by have := beq_iff_eq.1 e; omega
        have n2 : ¬ (((j : Nat) : Int) == -1) = true := fun e => by have := beq_iff_eq.1 e; omega
        rw [hn, Lib.splitK, Lib.splitK, hix, hj, if_neg n1, if_neg n2]
        show List.take (j + 1) (b :: l) :: Lib.splitK [c] 0 n (List.drop (j + 1 + 1) (b :: l)) = (b :: List.take j l) :: Lib.splitK [c] 0 n (List.drop (j + 1) l)
        rfl
/-- The pieces behind the first k signs, and where the next begins. -/
def spP (s : ByteArray) (c : UInt8) : Nat → List ByteArray × Nat
  | 0 => ([], 0)
  | k + 1 => if ch s k = c then ((spP s c k).1 ++ [s.extract (spP s c k).2 k], k + 1) else spP s c k
def spA (s : ByteArray) (c : UInt8) : List ByteArray := (spP s c s.size).1 ++ [s.extract (spP s c s.size).2 s.size]
theorem spP_t {s : ByteArray} {c : UInt8} {k : Nat} (h : ch s k = c) : spP s c (k + 1) = ((spP s c k).1 ++ [s.extract (spP s c k).2 k], k + 1) := by rw [spP, if_pos h]
theorem spP_f {s : ByteArray} {c : UInt8} {k : Nat} (h : ch s k ≠ c) : spP s c (k + 1) = spP s c k := by rw [spP, if_neg h]
theorem spP_le (s : ByteArray) (c : UInt8) : ∀ k, (spP s c k).2 ≤ k ∧ (spP s c k).1.length ≤ k
  | 0 => ⟨Nat.le_refl _, Nat.le_refl _⟩
  | k + 1 => by
    obtain ⟨h1, h2⟩ := spP_le s c k
    by_cases h : ch s k = c
    · rw [spP_t h]; simp; omega
    · rw [spP_f h]; omega
theorem ext_list (s : ByteArray) (a b : Nat) : (s.extract a b).data.toList = (s.data.toList.take b).drop a := by
  rw [Lib.extract_data, List.drop_take]
theorem sz_list (s : ByteArray) : s.size = s.data.toList.length := by rw [Array.length_toList]; rfl
theorem drop_ch {s : ByteArray} {k : Nat} (h : k < s.size) : s.data.toList.drop k = ch s k :: s.data.toList.drop (k + 1) := by
  have h' : k < s.data.toList.length := by rw [← sz_list]; exact h
  rw [List.drop_eq_getElem_cons h']
  congr 1
  unfold ch
  rw [Array.getD_eq_getD_getElem?, ← Array.getElem?_toList, List.getElem?_eq_getElem h']; rfl
theorem take_ch {s : ByteArray} {k a : Nat} (h : k < s.size) (ha : a ≤ k) : (s.data.toList.take (k + 1)).drop a = (s.data.toList.take k).drop a ++ [ch s k] := by
  have h' : k < s.data.toList.length := by rw [← sz_list]; exact h
  have e : s.data.toList[k] = ch s k := by
    unfold ch
    rw [Array.getD_eq_getD_getElem?, ← Array.getElem?_toList, List.getElem?_eq_getElem h']; rfl
  rw [List.take_succ_eq_append_getElem h', e, List.drop_append_of_le_length (by rw [List.length_take]; omega)]
theorem spP_cut (s : ByteArray) (c : UInt8) : ∀ k, k ≤ s.size → cutL c s.data.toList = (spP s c k).1.map (·.data.toList) ++ glue ((s.data.toList.take k).drop (spP s c k).2) (cutL c (s.data.toList.drop k))
  | 0, _ => by
    show _ = [] ++ glue ((s.data.toList.take 0).drop 0) (cutL c (s.data.toList.drop 0))
    rw [List.nil_append, List.take_zero, List.drop_nil, List.drop_zero, glue_nil (cutL_ne c _)]
  | k + 1, hk => by
    obtain ⟨h1, _⟩ := spP_le s c k
    rw [spP_cut s c k (by omega), drop_ch (show k < s.size by omega)]
    by_cases h : ch s k = c
    · rw [spP_t h, h, cutL_eq, List.map_append, List.append_assoc]
      congr 1
      show glue _ ([] :: _) = [(s.extract (spP s c k).2 k).data.toList] ++ glue ((s.data.toList.take (k + 1)).drop (k + 1)) _
      have d1 : (s.data.toList.take (k + 1)).drop (k + 1) = [] := List.drop_eq_nil_of_le (by rw [List.length_take]; omega)
      rw [d1, glue_nil (cutL_ne c _), ext_list]
      simp [glue]
    · rw [spP_f h, cutL_other h, glue_two _ _ (cutL_ne c _), take_ch (show k < s.size by omega) h1]
theorem spA_cut (s : ByteArray) (c : UInt8) : (spA s c).map (·.data.toList) = cutL c s.data.toList := by
  have d2 : s.data.toList.drop s.size = [] := List.drop_eq_nil_of_le (by rw [sz_list]; exact Nat.le_refl _)
  rw [spP_cut s c s.size (Nat.le_refl _), d2]
  unfold spA
  rw [List.map_append]
  show _ ++ [(s.extract _ _).data.toList] = _ ++ glue _ [[]]
  rw [ext_list]; simp [glue]
theorem ba_inj {x y : ByteArray} (h : x.data.toList = y.data.toList) : x = y := by
  cases x; cases y; congr 1; exact Array.ext' h
theorem map_ba : ∀ {xs ys : List ByteArray}, xs.map (·.data.toList) = ys.map (·.data.toList) → xs = ys
  | [], [], _ => rfl
  | [], _ :: _, h => by simp at h
  | _ :: _, [], h => by simp at h
  | x :: xs, y :: ys, h => by
    simp only [List.map_cons, List.cons.injEq] at h
    rw [ba_inj h.1, map_ba h.2]
/-- The pieces are the library's. -/
theorem spA_lib (s : ByteArray) (c : UInt8) : Lib.splitB ⟨#[c]⟩ 0 (Lib.countB s ⟨#[c]⟩) s = spA s c := map_ba (by
  rw [Lib.splitB_data, spA_cut]
  exact splitK_cut c s.data.toList)
theorem spA_len (s : ByteArray) (c : UInt8) : Lib.countB s ⟨#[c]⟩ + 1 = (spA s c).length := by
  rw [← spA_lib, Lib.splitB_all _ (show 1 ≤ (⟨#[c]⟩ : ByteArray).size from Nat.le_refl 1) 0 _ _ rfl]
theorem spA_le (s : ByteArray) (c : UInt8) : (spA s c).length ≤ s.size + 1 := by
  have := (spP_le s c s.size).2
  unfold spA; rw [List.length_append]; simp; omega
theorem spA_piece {s : ByteArray} {c : UInt8} {p : ByteArray} (h : p ∈ spA s c) : p.size ≤ s.size := by
  have key : ∀ k, k ≤ s.size → ∀ q ∈ (spP s c k).1, q.size ≤ s.size := fun k => by
    induction k with
    | zero => intro _ q hq; cases hq
    | succ k ih =>
      intro hk q hq
      by_cases h : ch s k = c
      · rw [spP_t h] at hq
        rcases List.mem_append.1 hq with hq | hq
        · exact ih (by omega) q hq
        · rw [List.mem_singleton.1 hq, ByteArray.size_extract]; omega
      · rw [spP_f h] at hq; exact ih (by omega) q hq
  unfold spA at h
  rcases List.mem_append.1 h with h | h
  · exact key _ (Nat.le_refl _) p h
  · rw [List.mem_singleton.1 h, ByteArray.size_extract]; omega
end Go.Proofs.YtalbdgkbinndlaaDoor
/- Texts of bytes: bytes of texts, boxes of texts. -/
namespace Go.Proofs.YtalbdgkbinndlaaDoor
set_option linter.unusedSimpArgs false
set_option linter.unusedVariables false
set_option maxRecDepth 20000
set_option maxHeartbeats 1000000
open Go.Abs

theorem Bs_snoc1 {n : Nat} (f : Nat → UInt8) : Bs n f ++ [B (f n)] = Bs (n + 1) f := by
  unfold Bs; rw [List.range_succ, List.map_append]; rfl
theorem nib_or0 : ∀ d, d < 16 → ∀ e, e < 16 → (UInt8.ofNat (d * 16) ||| UInt8.ofNat e) = UInt8.ofNat (16 * d + e) := by decide +kernel
theorem nib_or {d e : UInt8} (hd : d.toNat < 16) (he : e.toNat < 16) : (UInt8.ofNat (d.toNat * 16) ||| e) = UInt8.ofNat (16 * d.toNat + e.toNat) := by
  have := nib_or0 d.toNat hd e.toNat he
  rwa [UInt8.ofNat_toNat] at this
theorem shl4 {P : Program} {T : TypeId} (k : IntKind) (d : UInt8) : abin P .shl T (B d) (.int k 4) = some (B (UInt8.ofNat (d.toNat * 16))) := by
  have := abin_shl_I (P := P) (T := T) .u8 k (d.toNat : Int) 4 (by omega)
  show abin P .shl T (.int .u8 (d.toNat : Int)) (.int k 4) = _
  rw [this, wrap_B, show min (Int.toNat 4) IntKind.u8.bits = 4 from rfl, show ((d.toNat : Int) * 2 ^ 4) = ((d.toNat * 16 : Nat) : Int) by rw [Int.natCast_mul]; rfl, toB_nat]
theorem allT_first {f : Nat → Bool} : ∀ {n : Nat}, allT f n = false → ∃ i, i < n ∧ f i = false ∧ allT f i = true
  | 0, h => by cases h
  | n + 1, h => by
    cases hn : allT f n with
    | false => obtain ⟨i, h1, h2, h3⟩ := allT_first hn; exact ⟨i, by omega, h2, h3⟩
    | true =>
      cases hf : f n with
      | false => exact ⟨n, by omega, hf, hn⟩
      | true => rw [allT_s hn hf] at h; cases h
theorem allT_get {f : Nat → Bool} {n i : Nat} (h : allT f n = true) (hi : i < n) : f i = true := List.all_eq_true.1 h i (List.mem_range.2 hi)
theorem gdP_t {s : ByteArray} {k : Nat} (h : gdP s k = true) : digOk (ch s (2 * k)) = true ∧ digOk (ch s (2 * k + 1)) = true := by
  unfold gdP at h; rwa [Bool.and_eq_true] at h
theorem digI_t {c : UInt8} (h : digOk c = true) : digI c = (((digV c).toNat : Nat) : Int) := if_pos h
theorem digI_f {c : UInt8} (h : digOk c = false) : digI c = -1 := if_neg (by rw [h]; decide)
theorem ch_is (s : ByteArray) (i : Nat) : s.data.getD i 0 = ch s i := rfl
theorem unV_is (s : ByteArray) (k : Nat) : UInt8.ofNat (16 * (digV (ch s (2 * k))).toNat + (digV (ch s (2 * k + 1))).toNat) = unV s k := rfl
def digI0 (a b c d : Bool) (x : UInt8) : Int := if a && b then ((x - 48).toNat : Int) else if c && d then (((x - 97).toNat + 10 : Nat) : Int) else -1
theorem dig10 : ∀ n, n < 256 → 97 ≤ UInt8.ofNat n → UInt8.ofNat n ≤ 102 → (UInt8.ofNat n - 97 + 10).toNat = (UInt8.ofNat n - 97).toNat + 10 := by decide +kernel
theorem dig_I (c : UInt8) : digI c = digI0 (decide (48 ≤ c)) (decide (c ≤ 57)) (decide (97 ≤ c)) (decide (c ≤ 102)) c := by
  unfold digI digI0 digOk digV
  cases e : (decide (48 ≤ c) && decide (c ≤ 57))
  · cases e2 : (decide (97 ≤ c) && decide (c ≤ 102))
    · rfl
    · rw [Bool.and_eq_true, decide_eq_true_eq, decide_eq_true_eq] at e2
      have := dig10 c.toNat (u8_lt c)
      rw [UInt8.ofNat_toNat] at this
      show (((c - 97 + 10).toNat : Nat) : Int) = _
      rw [this e2.1 e2.2]; rfl
  · rfl
attribute [local irreducible] ch unV digV digOk
theorem fromI_ok {s : ByteArray} (hs : s.size ≤ 2147483648) (hx : hexOk s = true) (h : List Blk) : AC Tryd.prog 45 [.string s] h (.tuple #[sl h.length 0 (s.size / 2) 1, .bool true]) (h ++ [⟨Bs (s.size / 2) (unV s), true⟩]) := by
  unfold hexOk at hx
  rw [Bool.and_eq_true, beq_iff_eq] at hx
  obtain ⟨h0, h1⟩ := hx
  have hb0 : (s.size % 2 == 1) = false := by rw [h0]; rfl
  (refine AC_begin (fun _ _ => Tryd.call45 _ _) Tryd.func45 rfl Tryd.ntmps45 Tryd.results45 (fun hwf => ?_); simp only [List.length_cons, List.length_nil, Nat.reduceAdd, Nat.reduceSub, List.replicate, List.cons_append, List.nil_append])
  (refine sN (And.intro @hb0 (@yieldA_at 2 38)) ?_)
  refine WA_forP (fun k => [(2, J), (3, J), (4, sl h.length 0 k 1), (5, .int .i64 ((2 * k : Nat))), (6, J), (7, J), (8, J), (9, J), (10, J), (15, J), (16, J), (17, J), (18, J), (19, J), (20, J), (21, J), (22, J), (23, J), (24, J), (25, J), (26, J), (27, J), (28, J), (29, J), (30, J), (31, J), (32, J), (33, J), (34, J), (35, J), (36, J), (37, J), (38, J), (39, J), (40, J), (41, J), (42, J), (43, J), (44, J), (45, J), (46, J), (47, J), (48, J)]) (fun k => [(0, ⟨Bs k (unV s), true⟩)]) (s.size / 2) ?_ ?_ ?_ <;> (try simp only [patT_cons, patT_nil, patL_cons, patL_nil, list_set_zero, list_set_succ, blk_set_zero, blk_set_succ])
  · rw [Nat.mul_zero]
    (exact sS0)
  · intro k hk
    obtain ⟨g0, g1⟩ := gdP_t (allT_get h1 hk)
    have v0 := (hex_dig g0).2
    have v1 := (hex_dig g1).2
    have hor := nib_or v0 v1
    rw [unV_is] at hor
    (repeat (first | ((first | (refine And.intro ?_ ?_; focus exact PLA) | ((first | with_reducible apply callB_i | with_reducible apply callK_intro | with_reducible apply callQ_i); (focus (first | assumption | (with_reducible apply digI_ac <;> (first | assumption | rfl | (simp (disch := omega) only [go_sem]; first | done | rfl) | omega | decide | (simp; done))))); (try exact WP_au)) | refine WA_seq (WA_region ?_) | refine WA_region ?_ | refine WA_exit ?_); try simp (maxSteps := 1000000) (disch := first | omega | rfl | decide | (simp only [List.length_cons, List.length_nil, List.length_append, LV] <;> omega)) only [go_sem, Nat.reduceAdd, Int.reduceAdd, Int.reduceSub, Int.reduceMul, Bool.not_true, Bool.not_false, ch_is, g0, g1, if_true, Bool.not_true, shl4, hor, sub1, Bs_snoc1, yieldA_at 2 38]) | refine WA_seq ?_ | refine WA_block ?_ | (refine WA_skip ?_; try simp only [go_sem]) | (refine WA_ret ?_; try simp only [go_sem]) | refine WA_ct rfl ?_ | refine WA_cf rfl ?_))
    rw [show 2 * (k + 1) = 2 * k + 2 by omega]
    (exact gC [2])
  · (refine sN (@yieldA_at 2 38) ?_)
    (exact sR0)
theorem fromI_no {s : ByteArray} (hs : s.size ≤ 2147483648) (hx : hexOk s = false) (h : List Blk) : AC Tryd.prog 45 [.string s] h (.tuple #[.slice none 0 0, .bool false]) h := by
  unfold hexOk at hx
  by_cases h0 : s.size % 2 = 0
  · have hb0 : (s.size % 2 == 1) = false := by rw [h0]; rfl
    rw [h0] at hx
    obtain ⟨i, hi, hf, hall⟩ := allT_first hx
    (refine AC_begin (fun _ _ => Tryd.call45 _ _) Tryd.func45 rfl Tryd.ntmps45 Tryd.results45 (fun hwf => ?_); simp only [List.length_cons, List.length_nil, Nat.reduceAdd, Nat.reduceSub, List.replicate, List.cons_append, List.nil_append])
    (refine sN (And.intro @hb0 (@yieldA_at 2 38)) ?_)
    refine WA_forP (fun k => [(2, J), (3, J), (4, sl h.length 0 k 1), (5, .int .i64 ((2 * k : Nat))), (6, J), (7, J), (8, J), (9, J), (10, J), (15, J), (16, J), (17, J), (18, J), (19, J), (20, J), (21, J), (22, J), (23, J), (24, J), (25, J), (26, J), (27, J), (28, J), (29, J), (30, J), (31, J), (32, J), (33, J), (34, J), (35, J), (36, J), (37, J), (38, J), (39, J), (40, J), (41, J), (42, J), (43, J), (44, J), (45, J), (46, J), (47, J), (48, J)]) (fun k => [(0, ⟨Bs k (unV s), true⟩)]) (i) ?_ ?_ ?_ <;> (try simp only [patT_cons, patT_nil, patL_cons, patL_nil, list_set_zero, list_set_succ, blk_set_zero, blk_set_succ])
    · rw [Nat.mul_zero]
      (exact sS0)
    · intro k hk
      obtain ⟨g0, g1⟩ := gdP_t (allT_get hall hk)
      have v0 := (hex_dig g0).2
      have v1 := (hex_dig g1).2
      have hor := nib_or v0 v1
      rw [unV_is] at hor
      (repeat (first | ((first | (refine And.intro ?_ ?_; focus exact PLA) | ((first | with_reducible apply callB_i | with_reducible apply callK_intro | with_reducible apply callQ_i); (focus (first | assumption | (with_reducible apply digI_ac <;> (first | assumption | rfl | (simp (disch := omega) only [go_sem]; first | done | rfl) | omega | decide | (simp; done))))); (try exact WP_au)) | refine WA_seq (WA_region ?_) | refine WA_region ?_ | refine WA_exit ?_); try simp (maxSteps := 1000000) (disch := first | omega | rfl | decide | (simp only [List.length_cons, List.length_nil, List.length_append, LV] <;> omega)) only [go_sem, Nat.reduceAdd, Int.reduceAdd, Int.reduceSub, Int.reduceMul, Bool.not_true, Bool.not_false, ch_is, g0, g1, if_true, Bool.not_true, shl4, hor, sub1, Bs_snoc1, yieldA_at 2 38]) | refine WA_seq ?_ | refine WA_block ?_ | (refine WA_skip ?_; try simp only [go_sem]) | (refine WA_ret ?_; try simp only [go_sem]) | refine WA_ct rfl ?_ | refine WA_cf rfl ?_))
      rw [show 2 * (k + 1) = 2 * k + 2 by omega]
      (exact gC [2])
    · unfold gdP at hf
      cases g0 : digOk (ch s (2 * i)) <;> cases g1 : digOk (ch s (2 * i + 1))
      all_goals try (rw [g0, g1] at hf; cases hf; done)
      all_goals ((refine sW (And.intro @ch_is (And.intro @g0 (And.intro @g1 (@yieldA_at 2 38)))) @digI_ac ?_))
      all_goals (exact sR0)
  · have hb0 : (s.size % 2 == 1) = true := by rw [show s.size % 2 = 1 by omega]; rfl
    (refine AC_begin (fun _ _ => Tryd.call45 _ _) Tryd.func45 rfl Tryd.ntmps45 Tryd.results45 (fun hwf => ?_); simp only [List.length_cons, List.length_nil, Nat.reduceAdd, Nat.reduceSub, List.replicate, List.cons_append, List.nil_append])
    (refine sN (And.intro @hb0 (@yieldA_at 2 38)) ?_)
    (exact sR0)

theorem digS_ac (c : UInt8) (h : List Blk) : AC Tryd.prog 72 [B c] h (.int .i64 (digI c)) h := by
  have l1 := u8_lt (c - 48)
  have l2 := u8_lt (c - 97)
  have w1 := wrap_N (n := (c - 48).toNat) (by omega)
  have w2 := wrap_N (n := (c - 97).toNat) (by omega)
  have w3 : IntKind.i64.wrap (((c - 97).toNat : Int) + 10) = (((c - 97).toNat + 10 : Nat) : Int) := wrap_N (n := (c - 97).toNat + 10) (by omega)
  (refine AC_begin (fun _ _ => Tryd.call72 _ _) Tryd.func72 rfl Tryd.ntmps72 Tryd.results72 (fun hwf => ?_); simp only [List.length_cons, List.length_nil, Nat.reduceAdd, Nat.reduceSub, List.replicate, List.cons_append, List.nil_append])
  cases e1 : decide (48 ≤ c) <;> cases e2 : decide (c ≤ 57) <;> cases e3 : decide (97 ≤ c) <;> cases e4 : decide (c ≤ 102)
  all_goals ((refine sN (And.intro @e1 (And.intro @e2 (And.intro @e3 (And.intro @e4 (And.intro @w1 (And.intro @w2 (And.intro @w3 (And.intro (@yieldA_at 2 6) (@yieldA_at 2 16))))))))) ?_))
  all_goals ((exact sR (And.intro @dig_I (And.intro @digI0.eq_1 (And.intro @w1 (And.intro @w2 (And.intro @w3 (And.intro @e1 (And.intro @e2 (And.intro @e3 (And.intro @e4 (And.intro @Bool.and_true (And.intro @Bool.and_false (And.intro @Bool.or_true @Bool.or_false))))))))))))))

theorem fromS_ok {s : ByteArray} (hs : s.size ≤ 2147483648) (hx : hexOk s = true) (h : List Blk) : AC Tryd.prog 50 [.string s] h (.tuple #[sl h.length 0 (s.size / 2) 1, .bool true]) (h ++ [⟨Bs (s.size / 2) (unV s), true⟩]) := by
  unfold hexOk at hx
  rw [Bool.and_eq_true, beq_iff_eq] at hx
  obtain ⟨h0, h1⟩ := hx
  have hb0 : (s.size % 2 != 0) = false := by rw [h0]; rfl
  (refine AC_begin (fun _ _ => Tryd.call50 _ _) Tryd.func50 rfl Tryd.ntmps50 Tryd.results50 (fun hwf => ?_); simp only [List.length_cons, List.length_nil, Nat.reduceAdd, Nat.reduceSub, List.replicate, List.cons_append, List.nil_append])
  (refine sN (And.intro @hb0 (@yieldA_at 2 31)) ?_)
  refine WA_forP (fun k => [(2, J), (3, J), (4, sl h.length 0 k 1), (5, .int .i64 ((2 * k : Nat))), (6, J), (7, J), (8, J), (13, J), (14, J), (15, J), (16, J), (17, J), (18, J), (19, J), (20, J), (21, J), (22, J), (23, J), (24, J), (25, J), (26, J), (27, J), (28, J), (29, J), (30, J), (31, J), (32, J), (33, J), (34, J), (35, J), (36, J), (37, J), (38, J), (39, J), (40, J), (41, J), (42, J)]) (fun k => [(0, ⟨Bs k (unV s), true⟩)]) (s.size / 2) ?_ ?_ ?_ <;> (try simp only [patT_cons, patT_nil, patL_cons, patL_nil, list_set_zero, list_set_succ, blk_set_zero, blk_set_succ])
  · rw [Nat.mul_zero]
    (exact sS0)
  · intro k hk
    obtain ⟨g0, g1⟩ := gdP_t (allT_get h1 hk)
    have v0 := (hex_dig g0).2
    have v1 := (hex_dig g1).2
    (repeat (first | ((first | (refine And.intro ?_ ?_; focus exact PLA) | ((first | with_reducible apply callB_i | with_reducible apply callK_intro | with_reducible apply callQ_i); (focus (first | assumption | (with_reducible apply digS_ac <;> (first | assumption | rfl | (simp (disch := omega) only [go_sem]; first | done | rfl) | omega | decide | (simp; done))))); (try exact WP_au)) | refine WA_seq (WA_region ?_) | refine WA_region ?_ | refine WA_exit ?_); try simp (maxSteps := 1000000) (disch := first | omega | rfl | decide | (simp only [List.length_cons, List.length_nil, List.length_append, LV] <;> omega)) only [go_sem, Nat.reduceAdd, Int.reduceAdd, Int.reduceSub, Int.reduceMul, Bool.not_true, Bool.not_false, ch_is, digI_t g0, digI_t g1, Nat.not_lt_zero, decide_false, unV_is, sub1, Bs_snoc1, yieldA_at 2 31]) | (refine WA_seq (WA_draw (id := 7) mixedOk (by kernel_rfl) ?_); simp (maxSteps := 1000000) (disch := first | omega | rfl | decide | (simp only [List.length_cons, List.length_nil, List.length_append, LV] <;> omega)) only [go_sem, Nat.reduceAdd, Int.reduceAdd, Int.reduceSub, Int.reduceMul, Bool.not_true, Bool.not_false, ch_is, digI_t g0, digI_t g1, Nat.not_lt_zero, decide_false, unV_is, sub1, Bs_snoc1, yieldA_at 2 31]) | (refine WA_draw (id := 7) mixedOk (by kernel_rfl) ?_; simp (maxSteps := 1000000) (disch := first | omega | rfl | decide | (simp only [List.length_cons, List.length_nil, List.length_append, LV] <;> omega)) only [go_sem, Nat.reduceAdd, Int.reduceAdd, Int.reduceSub, Int.reduceMul, Bool.not_true, Bool.not_false, ch_is, digI_t g0, digI_t g1, Nat.not_lt_zero, decide_false, unV_is, sub1, Bs_snoc1, yieldA_at 2 31]) | refine WA_seq ?_ | refine WA_block ?_ | (refine WA_skip ?_; try simp only [go_sem]) | (refine WA_ret ?_; try simp only [go_sem]) | refine WA_ct rfl ?_ | refine WA_cf rfl ?_))
    rw [show 2 * (k + 1) = 2 * k + 2 by omega]
    (exact gC [2])
  · (refine sN (@yieldA_at 2 31) ?_)
    (exact sR0)
theorem fromS_no {s : ByteArray} (hs : s.size ≤ 2147483648) (hx : hexOk s = false) (h : List Blk) : AC Tryd.prog 50 [.string s] h (.tuple #[.slice none 0 0, .bool false]) h := by
  unfold hexOk at hx
  by_cases h0 : s.size % 2 = 0
  · have hb0 : (s.size % 2 != 0) = false := by rw [h0]; rfl
    rw [h0] at hx
    obtain ⟨i, hi, hf, hall⟩ := allT_first hx
    (refine AC_begin (fun _ _ => Tryd.call50 _ _) Tryd.func50 rfl Tryd.ntmps50 Tryd.results50 (fun hwf => ?_); simp only [List.length_cons, List.length_nil, Nat.reduceAdd, Nat.reduceSub, List.replicate, List.cons_append, List.nil_append])
    (refine sN (And.intro @hb0 (@yieldA_at 2 31)) ?_)
    refine WA_forP (fun k => [(2, J), (3, J), (4, sl h.length 0 k 1), (5, .int .i64 ((2 * k : Nat))), (6, J), (7, J), (8, J), (13, J), (14, J), (15, J), (16, J), (17, J), (18, J), (19, J), (20, J), (21, J), (22, J), (23, J), (24, J), (25, J), (26, J), (27, J), (28, J), (29, J), (30, J), (31, J), (32, J), (33, J), (34, J), (35, J), (36, J), (37, J), (38, J), (39, J), (40, J), (41, J), (42, J)]) (fun k => [(0, ⟨Bs k (unV s), true⟩)]) (i) ?_ ?_ ?_ <;> (try simp only [patT_cons, patT_nil, patL_cons, patL_nil, list_set_zero, list_set_succ, blk_set_zero, blk_set_succ])
    · rw [Nat.mul_zero]
      (exact sS0)
    · intro k hk
      obtain ⟨g0, g1⟩ := gdP_t (allT_get hall hk)
      have v0 := (hex_dig g0).2
      have v1 := (hex_dig g1).2
      (repeat (first | ((first | (refine And.intro ?_ ?_; focus exact PLA) | ((first | with_reducible apply callB_i | with_reducible apply callK_intro | with_reducible apply callQ_i); (focus (first | assumption | (with_reducible apply digS_ac <;> (first | assumption | rfl | (simp (disch := omega) only [go_sem]; first | done | rfl) | omega | decide | (simp; done))))); (try exact WP_au)) | refine WA_seq (WA_region ?_) | refine WA_region ?_ | refine WA_exit ?_); try simp (maxSteps := 1000000) (disch := first | omega | rfl | decide | (simp only [List.length_cons, List.length_nil, List.length_append, LV] <;> omega)) only [go_sem, Nat.reduceAdd, Int.reduceAdd, Int.reduceSub, Int.reduceMul, Bool.not_true, Bool.not_false, ch_is, digI_t g0, digI_t g1, Nat.not_lt_zero, decide_false, unV_is, sub1, Bs_snoc1, yieldA_at 2 31]) | (refine WA_seq (WA_draw (id := 7) mixedOk (by kernel_rfl) ?_); simp (maxSteps := 1000000) (disch := first | omega | rfl | decide | (simp only [List.length_cons, List.length_nil, List.length_append, LV] <;> omega)) only [go_sem, Nat.reduceAdd, Int.reduceAdd, Int.reduceSub, Int.reduceMul, Bool.not_true, Bool.not_false, ch_is, digI_t g0, digI_t g1, Nat.not_lt_zero, decide_false, unV_is, sub1, Bs_snoc1, yieldA_at 2 31]) | (refine WA_draw (id := 7) mixedOk (by kernel_rfl) ?_; simp (maxSteps := 1000000) (disch := first | omega | rfl | decide | (simp only [List.length_cons, List.length_nil, List.length_append, LV] <;> omega)) only [go_sem, Nat.reduceAdd, Int.reduceAdd, Int.reduceSub, Int.reduceMul, Bool.not_true, Bool.not_false, ch_is, digI_t g0, digI_t g1, Nat.not_lt_zero, decide_false, unV_is, sub1, Bs_snoc1, yieldA_at 2 31]) | refine WA_seq ?_ | refine WA_block ?_ | (refine WA_skip ?_; try simp only [go_sem]) | (refine WA_ret ?_; try simp only [go_sem]) | refine WA_ct rfl ?_ | refine WA_cf rfl ?_))
      rw [show 2 * (k + 1) = 2 * k + 2 by omega]
      (exact gC [2])
    · unfold gdP at hf
      have dneg : decide ((-1 : Int) < 0) = true := by decide
      cases g0 : digOk (ch s (2 * i))
      · (repeat (first | ((first | (refine And.intro ?_ ?_; focus exact PLA) | ((first | with_reducible apply callB_i | with_reducible apply callK_intro | with_reducible apply callQ_i); (focus (first | assumption | (with_reducible apply digS_ac <;> (first | assumption | rfl | (simp (disch := omega) only [go_sem]; first | done | rfl) | omega | decide | (simp; done))))); (try exact WP_au)) | refine WA_seq (WA_region ?_) | refine WA_region ?_ | refine WA_exit ?_); try simp (maxSteps := 1000000) (disch := first | omega | rfl | decide | (simp only [List.length_cons, List.length_nil, List.length_append, LV] <;> omega)) only [go_sem, Nat.reduceAdd, Int.reduceAdd, Int.reduceSub, Int.reduceMul, Bool.not_true, Bool.not_false, ch_is, digI_f g0, dneg, yieldA_at 2 31]) | (refine WA_seq (WA_draw (id := 7) mixedOk (by kernel_rfl) ?_); simp (maxSteps := 1000000) (disch := first | omega | rfl | decide | (simp only [List.length_cons, List.length_nil, List.length_append, LV] <;> omega)) only [go_sem, Nat.reduceAdd, Int.reduceAdd, Int.reduceSub, Int.reduceMul, Bool.not_true, Bool.not_false, ch_is, digI_f g0, dneg, yieldA_at 2 31]) | (refine WA_draw (id := 7) mixedOk (by kernel_rfl) ?_; simp (maxSteps := 1000000) (disch := first | omega | rfl | decide | (simp only [List.length_cons, List.length_nil, List.length_append, LV] <;> omega)) only [go_sem, Nat.reduceAdd, Int.reduceAdd, Int.reduceSub, Int.reduceMul, Bool.not_true, Bool.not_false, ch_is, digI_f g0, dneg, yieldA_at 2 31]) | refine WA_seq ?_ | refine WA_block ?_ | (refine WA_skip ?_; try simp only [go_sem]) | (refine WA_ret ?_; try simp only [go_sem]) | refine WA_ct rfl ?_ | refine WA_cf rfl ?_))
        (exact sR0)
      · rw [g0, Bool.true_and] at hf
        (repeat (first | ((first | (refine And.intro ?_ ?_; focus exact PLA) | ((first | with_reducible apply callB_i | with_reducible apply callK_intro | with_reducible apply callQ_i); (focus (first | assumption | (with_reducible apply digS_ac <;> (first | assumption | rfl | (simp (disch := omega) only [go_sem]; first | done | rfl) | omega | decide | (simp; done))))); (try exact WP_au)) | refine WA_seq (WA_region ?_) | refine WA_region ?_ | refine WA_exit ?_); try simp (maxSteps := 1000000) (disch := first | omega | rfl | decide | (simp only [List.length_cons, List.length_nil, List.length_append, LV] <;> omega)) only [go_sem, Nat.reduceAdd, Int.reduceAdd, Int.reduceSub, Int.reduceMul, Bool.not_true, Bool.not_false, ch_is, digI_t g0, digI_f hf, Nat.not_lt_zero, decide_false, dneg, yieldA_at 2 31]) | (refine WA_seq (WA_draw (id := 7) mixedOk (by kernel_rfl) ?_); simp (maxSteps := 1000000) (disch := first | omega | rfl | decide | (simp only [List.length_cons, List.length_nil, List.length_append, LV] <;> omega)) only [go_sem, Nat.reduceAdd, Int.reduceAdd, Int.reduceSub, Int.reduceMul, Bool.not_true, Bool.not_false, ch_is, digI_t g0, digI_f hf, Nat.not_lt_zero, decide_false, dneg, yieldA_at 2 31]) | (refine WA_draw (id := 7) mixedOk (by kernel_rfl) ?_; simp (maxSteps := 1000000) (disch := first | omega | rfl | decide | (simp only [List.length_cons, List.length_nil, List.length_append, LV] <;> omega)) only [go_sem, Nat.reduceAdd, Int.reduceAdd, Int.reduceSub, Int.reduceMul, Bool.not_true, Bool.not_false, ch_is, digI_t g0, digI_f hf, Nat.not_lt_zero, decide_false, dneg, yieldA_at 2 31]) | refine WA_seq ?_ | refine WA_block ?_ | (refine WA_skip ?_; try simp only [go_sem]) | (refine WA_ret ?_; try simp only [go_sem]) | refine WA_ct rfl ?_ | refine WA_cf rfl ?_))
        (exact sR0)
  · have hb0 : (s.size % 2 != 0) = true := by rw [bne_iff_ne]; exact h0
    (refine AC_begin (fun _ _ => Tryd.call50 _ _) Tryd.func50 rfl Tryd.ntmps50 Tryd.results50 (fun hwf => ?_); simp only [List.length_cons, List.length_nil, Nat.reduceAdd, Nat.reduceSub, List.replicate, List.cons_append, List.nil_append])
    (refine sN (And.intro @hb0 (@yieldA_at 2 31)) ?_)
    (exact sR0)

end Go.Proofs.YtalbdgkbinndlaaDoor
/- Texts cut at a sign: the reference and the library. -/
namespace Go.Proofs.YtalbdgkbinndlaaDoor
set_option linter.unusedSimpArgs false
set_option linter.unusedVariables false
set_option maxRecDepth 20000
set_option maxHeartbeats 1000000
open Go.Abs

def Ss (L : List ByteArray) : List Value := L.map Value.string
@[go_sem] theorem Ss_length (L : List ByteArray) : (Ss L).length = L.length := by simp [Ss]
@[go_sem] theorem Ss_plain (L : List ByteArray) : (Ss L).all plainC = true := by
  unfold Ss; rw [List.all_map, List.all_eq_true]; intro x _; rfl
theorem Ss_snoc (L : List ByteArray) (x : ByteArray) : Ss L ++ [.string x] = Ss (L ++ [x]) := by unfold Ss; rw [List.map_append]; rfl
theorem spP_01 (s : ByteArray) (c : UInt8) : (spP s c 0).1 = [] := rfl
theorem spP_02 (s : ByteArray) (c : UInt8) : (spP s c 0).2 = 0 := rfl
theorem Ss_nil : Ss [] = [] := rfl
@[go_sem] theorem Ss_get {L : List ByteArray} {i : Nat} (h : i < L.length) : (Ss L)[i]? = some (.string (L.getD i ⟨#[]⟩)) := by simp [Ss, h, List.getD_eq_getElem?_getD]
theorem lit1S (z v : Value) : splice (repA [z] 1) (0 * 1) [v] = [v] := by rw [repA_one]; rfl
theorem len_snoc (L : List ByteArray) (x : ByteArray) : (L ++ [x]).length = L.length + 1 := by rw [List.length_append]; rfl
@[go_sem] theorem growR_Ss {h : List Blk} {b by' m : Nat} {L : List ByteArray} {news : List Value} (h2 : (L.length + m) * by' ≤ 140737488355328) : growR h b (some ⟨Ss L, true⟩) L.length 1 by' m news = some (sl h.length 0 (L.length + m) 1, h.set b dead ++ [⟨Ss L ++ news, true⟩]) := growR_some (by rw [Ss_length, Nat.mul_one]) h2
attribute [local irreducible] ch
theorem splitS0_ac {s : ByteArray} (c : UInt8) (hs : s.size ≤ 2147483648) (h : List Blk) : AC Tryd.prog 49 [.string s, B c] h (sl (h.length + 2) 0 (spA s c).length 1) (h ++ [dead, ⟨[.string (s.extract (spP s c s.size).2 s.size)], true⟩, ⟨Ss (spA s c), true⟩]) := by
  (refine AC_begin (fun _ _ => Tryd.call49 _ _) Tryd.func49 rfl Tryd.ntmps49 Tryd.results49 (fun hwf => ?_); simp only [List.length_cons, List.length_nil, Nat.reduceAdd, Nat.reduceSub, List.replicate, List.cons_append, List.nil_append])
  (refine sN0 ?_)
  refine WA_forP (fun k => [(5, sl h.length 0 (spP s c k).1.length 1), (6, .int .i64 (((spP s c k).2 : Nat) : Int)), (7, .int .i64 k), (8, J), (9, J), (10, J), (11, J), (12, J), (13, J), (14, J), (15, J), (16, J), (17, J), (18, J), (19, J), (20, J), (21, J), (22, J), (23, J), (24, J), (25, J), (26, J), (27, J), (28, J)]) (fun k => [(0, ⟨Ss (spP s c k).1, true⟩)]) (s.size) ?_ ?_ ?_ <;> (try simp only [patT_cons, patT_nil, patL_cons, patL_nil, list_set_zero, list_set_succ, blk_set_zero, blk_set_succ])
  · (refine Drop_slots (by first | exact Nat.le_refl _ | simp) ?_; focus ((try simp only [JL_same, JL_J, JL_nil, Int.reduceAdd, Nat.sub_sub, Int.natCast_add, Int.natCast_one, Int.natCast_zero, Int.cast_ofNat_Int, Nat.add_zero, Bool.false_eq_true, if_false, if_true, spP_01, spP_02, Ss_nil, List.length_nil]); (try exact JL_refl _)))
  · intro k hk
    obtain ⟨h1, h2⟩ := spP_le s c k
    by_cases hc : ch s k = c
    · have hcb : (ch s k == c) = true := by rw [hc]; exact beq_self_eq_true c
      (refine sN (And.intro @ch_is (And.intro @hcb (And.intro @lit1S (And.intro @sub1 @Ss_snoc)))) ?_)
      rw [spP_t hc]
      simp only [len_snoc]
      (exact gC [2])
    · have hcb : (ch s k == c) = false := by rw [beq_eq_false_iff_ne]; exact hc
      (refine sN (And.intro @ch_is @hcb) ?_)
      rw [spP_f hc]
      (exact sS0)
  · obtain ⟨h1, h2⟩ := spP_le s c s.size
    (refine sN (And.intro @lit1S (And.intro @sub1 @Ss_snoc)) ?_)
    (exact sR (And.intro @spA.eq_1 @len_snoc))
theorem splitS_ac {s : ByteArray} (c : UInt8) (hs : s.size ≤ 2147483648) (h : List Blk) : AC Tryd.prog 49 [.string s, B c] h (sl h.length 0 (spA s c).length 1) (h ++ [⟨Ss (spA s c), true⟩]) := by
  (refine AC_gc [2] (splitS0_ac c hs h) (by decide) ?_ ?_ ?_; (focus (repeat (first | exact trivial | (refine And.intro ⟨_, rfl, ?_⟩ ?_; (focus first | (refine Fit_plain ?_; simp only [go_sem, List.all_append, List.all_cons, List.all_nil, Bool.and_self]; done) | exact Fit_nil rfl | exact Fit_dead | (refine Fit_eq ?_ ?_; (focus simp only [go_sem, List.all_append, List.all_cons, List.all_nil, Bool.and_self]); (focus (first | rfl | (simp only [Int.natCast_add, Int.natCast_one, Int.natCast_zero, Int.cast_ofNat_Int, Nat.add_zero]; done) | (simp only [Int.natCast_add, Int.natCast_one, Int.natCast_zero, Int.cast_ofNat_Int, Nat.add_zero]; rfl))))))))); (focus first | (refine renV_sl ?_; first | (rw [rhoF_new0]; rfl) | (rw [rhoF_new]; rfl) | (rw [rhoF_old]; first | assumption | omega)) | (refine renV_pt ?_; first | (rw [rhoF_new0]; rfl) | (rw [rhoF_new]; rfl) | (rw [rhoF_old]; first | assumption | omega)) | (refine renV_two ?_ ?_; (focus first | (refine ren1_sl ?_; first | (rw [rhoF_new0]; rfl) | (rw [rhoF_new]; rfl) | (rw [rhoF_old]; first | assumption | omega)) | rfl); (focus rfl)) | rfl | (refine (renV_plain ?_).symm; first | rfl | (refine plain_agg ?_; simp only [go_sem, List.all_append, List.all_cons, List.all_nil, Bool.and_self]; done))); (focus first | (simp only [wfV, wf1, wfC, List.length_append, List.length_cons, List.length_nil]; omega) | (refine wfV_two ?_ ?_; (focus simp only [wf1, wfC, List.length_append, List.length_cons, List.length_nil]; omega); (focus trivial)) | (refine plainV_wf ?_; (focus first | rfl | (refine plain_agg ?_; simp only [go_sem, List.all_append, List.all_cons, List.all_nil, Bool.and_self]; done)); done)))

theorem splitI_ac {s : ByteArray} (hs : s.size ≤ 2147483648) (h : List Blk) : AC Tryd.prog 44 [.string s, .string ⟨#[47]⟩] h (sl h.length 0 (spA s 47).length 1) (h ++ [⟨Ss (spA s 47), true⟩]) := by
  refine ⟨fun _ _ => Tryd.call44 _ _, fun E w args' hH hA => ?_⟩
  obtain ⟨hl, hg⟩ := hA
  obtain ⟨l⟩ := args'
  match l, hl, hg with
  | [u, v], _, hg =>
    have hu : u = .string s := hg 0 _ _ rfl rfl
    have hv : v = .string ⟨#[47]⟩ := hg 1 _ _ rfl rfl
    subst hu hv
    obtain ⟨m, hm⟩ := hH.door.maxLen
    refine Calls.mono (Tryd.strings_Split s ⟨#[47]⟩ m w (by omega) hm (by decide)) fun e w' ⟨he, hw⟩ => ?_
    subst hw
    rw [spA_len] at he
    rw [spA_lib]
    have hrow : Row E h.length (Ss (spA s 47)) ((spA s 47).map Value.string).toArray.toList := fun i x hx => ⟨x, hx, by
      have hp := List.all_eq_true.1 (Ss_plain (spA s 47)) x (List.mem_of_getElem? hx)
      exact CR.of_plain hp⟩
    have hr := hH.alloc (ty := 9) hrow
    refine ⟨_, _, he, ?_, hr.1, hr.2⟩
    refine ⟨rfl, by simp, _, _, rfl, Nat.le_refl _, .inr ⟨?_, ?_⟩⟩
    · simp [Emb.at, Emb.with]
    · simp [Emb.with]

end Go.Proofs.YtalbdgkbinndlaaDoor
/- Texts of ciphers: pieces joined, signs taken away, numerals. Plain. -/
namespace Go.Proofs.YtalbdgkbinndlaaDoor
set_option linter.unusedSimpArgs false
set_option linter.unusedVariables false
set_option maxRecDepth 20000
set_option maxHeartbeats 1000000
open Go.Abs

def joinB (L : List ByteArray) (sep : ByteArray) : ByteArray := ⟨(Lib.join (L.map (·.data.toList)) sep.data.toList).toArray⟩
theorem app_list (x y : ByteArray) : (x ++ y).data.toList = x.data.toList ++ y.data.toList := by simp [ByteArray.data_append]
theorem hexC_47 (n : Nat) : hexC n ≠ 47 := by
  rcases Nat.lt_or_ge n 16 with h | h
  · have : ∀ n, n < 16 → hexC n ≠ 47 := by decide +kernel
    exact this n h
  · have e : hexC n = 0 := by
      unfold hexC
      rw [Array.getD_eq_getD_getElem?, Array.getElem?_eq_none (by exact h)]; rfl
    rw [e]; decide
theorem hx_filter (f : Nat → UInt8) : ∀ n, (hx f n).filter (· != 47) = hx f n
  | 0 => rfl
  | n + 1 => by
    have h1 : (hexC ((f n).toNat / 16) != 47) = true := bne_iff_ne.2 (hexC_47 _)
    have h2 : (hexC ((f n).toNat % 16) != 47) = true := bne_iff_ne.2 (hexC_47 _)
    rw [hx, List.filter_append, hx_filter f n, List.filter_cons, h1, List.filter_cons, h2]; rfl
/-- The rows' texts. -/
def mtL (a : Nat → UInt8) (k : Nat) : List ByteArray := (List.range k).map fun i => hxT (fun t => a (i * 4 + t)) 4
theorem mtL_len (a : Nat → UInt8) (k : Nat) : (mtL a k).length = k := by unfold mtL; simp
theorem mtL_snoc (a : Nat → UInt8) (k : Nat) : mtL a k ++ [hxT (fun t => a (k * 4 + t)) 4] = mtL a (k + 1) := by unfold mtL; rw [List.range_succ, List.map_append]; rfl
theorem mtL_zero (a : Nat → UInt8) : mtL a 0 = [] := rfl
def mtT (a : Nat → UInt8) : ByteArray := joinB (mtL a 4) ⟨#[47]⟩
theorem mtT_list (a : Nat → UInt8) : (mtT a).data.toList = hx (fun t => a (0 * 4 + t)) 4 ++ ([47] ++ (hx (fun t => a (1 * 4 + t)) 4 ++ ([47] ++ (hx (fun t => a (2 * 4 + t)) 4 ++ ([47] ++ hx (fun t => a (3 * 4 + t)) 4))))) := by
  show Lib.join [hx (fun t => a (0 * 4 + t)) 4, hx (fun t => a (1 * 4 + t)) 4, hx (fun t => a (2 * 4 + t)) 4, hx (fun t => a (3 * 4 + t)) 4] [47] = _
  simp only [Lib.join_cons, Lib.joinTail, List.map_cons, List.map_nil, List.flatten_cons, List.flatten_nil, List.append_nil, List.append_assoc]
theorem mtT_size (a : Nat → UInt8) : (mtT a).size = 35 := by
  rw [sz_list, mtT_list]
  simp only [List.length_append, hx_len, List.length_cons, List.length_nil]
end Go.Proofs.YtalbdgkbinndlaaDoor
/- What the library's functions on texts return, as the abstract machine sees it. -/
namespace Go.Proofs.YtalbdgkbinndlaaDoor
set_option linter.unusedSimpArgs false
set_option linter.unusedVariables false
set_option maxRecDepth 20000
set_option maxHeartbeats 1000000
open Go.Abs
/-- A call that returns a plain value and leaves what was there. -/
theorem AC_below {P : Program} {f : FuncId} {args : List Value} {h : List Blk} {v : Value} (hcall : CallOk P f) (hv : plainV v = true)
    (hc : ∀ (E : Emb) (w : World) (args' : Array Value), HR E h w → P2 (VR E h.length) args args'.toList → Calls P f args' w fun e w' => e = .returned v ∧ RowKit.Below w.heap.size w w') : AC P f args h v h :=
  ⟨hcall, fun E w args' hr ha => (hc E w args' hr ha).mono fun e w' ⟨he, hb⟩ =>
    ⟨E, v, he, VR.of_plain hv, hr.same (below_same hb) hb.size,
      ⟨Nat.le_refl _, fun _ _ => rfl, fun _ _ => ⟨rfl, rfl⟩, hb.size, hb.os, hb.tape, hb.output, fun i hi _ => below_same hb i hi, fun b k hk hrw => .inr ⟨b, k, hk, hrw, rfl⟩⟩⟩⟩

@[go_sem] theorem pres_convert {hS : List Blk} {d} {t : List Value} {T U : TypeId} {x : Operand} {ty pos af g} : presOk t hS ⟨d, .convert T U x, ty, pos, af, g⟩ = True := rfl
@[go_sem] theorem pres_load {hS : List Blk} {d} {t : List Value} {T : TypeId} {x : Operand} {ty pos af g} : presOk t hS ⟨d, .load T x, ty, pos, af, g⟩ = True := rfl
theorem join_ac {h : List Blk} {b : Nat} {L : List ByteArray} {r : Bool} (hb : h[b]? = some ⟨Ss L, r⟩) (hL : 0 < L.length) (hN : L.length ≤ 1000) (sep : ByteArray) (hlen : (joinB L sep).size ≤ 140737488355328) : AC Tryd.prog 43 [sl b 0 L.length 1, .string sep] h (.string (joinB L sep)) h := by
  refine AC_below (fun _ _ => Tryd.call43 _ _) rfl fun E w args' hH hA => ?_
  obtain ⟨hl, hg⟩ := hA
  obtain ⟨l⟩ := args'
  match l, hl, hg with
  | [u, v], _, hg =>
    have h0 := hg 0 _ _ rfl rfl
    have hv : v = .string sep := hg 1 _ _ rfl rfl
    obtain ⟨_, hlt, a', cap, rfl, hle, hc⟩ := (show CR E h.length (sl b 0 L.length 1) u from h0)
    subst hv
    rcases hc with hc | ⟨rfl, _⟩
    · omega
    · refine Calls.mono (Tryd.strings_Join (E.loc b) (E.base b + 0) cap L sep w (fun j x hx => ?_) (hH.lt b _ hb) (by omega) hle hlen) fun e w' hw => hw
      have hx' : (Ss L)[j]? = some (.string x) := by unfold Ss; rw [List.getElem?_map, hx]; rfl
      obtain ⟨y, hy, hr⟩ := hH.cell b _ j _ hb hx'
      have e : y = .string x := hr
      rw [← e, Nat.add_zero]; exact hy

end Go.Proofs.YtalbdgkbinndlaaDoor
/- Hex texts of parts of blocks; texts of matrices. -/
namespace Go.Proofs.YtalbdgkbinndlaaDoor
set_option linter.unusedSimpArgs false
set_option linter.unusedVariables false
set_option maxRecDepth 20000
set_option maxHeartbeats 1000000
open Go.Abs

theorem mtT_ac (a : Nat → UInt8) (h : List Blk) : AC Tryd.prog 18 [.agg (Bs 16 a).toArray] h (.string (mtT a)) h := by
  have hsz : (joinB (mtL a 4) ⟨#[47]⟩).size ≤ 140737488355328 := by
    have := mtT_size a
    unfold mtT at this
    rw [this]; omega
  have hlen : (mtL a 4).length = 4 := mtL_len a 4
  (refine AC_begin (fun _ _ => Tryd.call18 _ _) Tryd.func18 rfl Tryd.ntmps18 Tryd.results18 (fun hwf => ?_); simp only [List.length_cons, List.length_nil, Nat.reduceAdd, Nat.reduceSub, List.replicate, List.cons_append, List.nil_append])
  (refine sN0 ?_)
  refine WA_forP (fun k => [(3, sl (h.length + 1) 0 k 1), (5, J), (6, J), (8, .int .i64 k), (9, J), (10, J), (11, J), (12, J), (13, J), (14, J), (15, J), (16, J)]) (fun k => [(1, ⟨Ss (mtL a k), true⟩)]) (4) ?_ ?_ ?_ <;> (try simp only [patT_cons, patT_nil, patL_cons, patL_nil, list_set_zero, list_set_succ, blk_set_zero, blk_set_succ])
  · rw [mtL_zero, Ss_nil]
    (exact sS0)
  · intro k hk
    have hl := mtL_len a k
    have hgr : ∀ (H : List Blk) (b : Nat) (news : List Value), growR H b (some ⟨Ss (mtL a k), true⟩) k 1 16 1 news = some (sl H.length 0 (k + 1) 1, H.set b dead ++ [⟨Ss (mtL a k) ++ news, true⟩]) := fun H b news => by
      have := growR_Ss (h := H) (b := b) (by' := 16) (m := 1) (L := mtL a k) (news := news) (by rw [hl]; omega)
      rw [hl] at this; exact this
    (refine sY (And.intro @hgr (And.intro @lit1S (And.intro @sub1 (And.intro @Ss_snoc @mtL_snoc)))) @hexI_ac ?_)
    (exact gC [0, 4])
  · have hj : ∀ H : List Blk, H[h.length + 1]? = some ⟨Ss (mtL a 4), true⟩ → AC Tryd.prog 43 [sl (h.length + 1) 0 4 1, .string ⟨#[47]⟩] H (.string (mtT a)) H := fun H hb => by
      have := join_ac hb (by omega) (by omega) ⟨#[47]⟩ hsz
      rw [hlen] at this; exact this
    (refine sW0 @hj ?_)
    (exact sR0)

end Go.Proofs.YtalbdgkbinndlaaDoor
/- A matrix's text by the reference; circulant matrices on both sides. -/
namespace Go.Proofs.YtalbdgkbinndlaaDoor
set_option linter.unusedSimpArgs false
set_option linter.unusedVariables false
set_option maxRecDepth 20000
set_option maxHeartbeats 1000000
open Go.Abs

/-- The text of a matrix's first rows. -/
def tP (a : Nat → UInt8) : Nat → ByteArray
  | 0 => ⟨#[]⟩
  | k + 1 => (if k = 0 then ⟨#[]⟩ else tP a k ++ ⟨#[47]⟩) ++ hxT (fun t => a (k * 4 + t)) 4
theorem tP_zero (a : Nat → UInt8) : tP a 0 = ⟨#[]⟩ := rfl
theorem tP_size (a : Nat → UInt8) : ∀ k, (tP a k).size ≤ k * 9
  | 0 => Nat.le_refl _
  | k + 1 => by
    have ih := tP_size a k
    have h1 : (tP a (k + 1)).size = (if k = 0 then (⟨#[]⟩ : ByteArray) else tP a k ++ ⟨#[47]⟩).size + (hxT (fun t => a (k * 4 + t)) 4).size := ByteArray.size_append
    have h2 := hxT_size (fun t => a (k * 4 + t)) 4
    have h3 : (tP a k ++ (⟨#[47]⟩ : ByteArray)).size = (tP a k).size + 1 := ByteArray.size_append
    rw [h1]
    split
    · have : (⟨#[]⟩ : ByteArray).size = 0 := rfl
      omega
    · omega
theorem tP_all (a : Nat → UInt8) : tP a 4 = mtT a := ba_inj (by
  rw [mtT_list]
  show ((((⟨#[]⟩ ++ hxT _ 4) ++ ⟨#[47]⟩ ++ hxT _ 4) ++ ⟨#[47]⟩ ++ hxT _ 4) ++ ⟨#[47]⟩ ++ hxT _ 4 : ByteArray).data.toList = _
  simp only [app_list]
  show [] ++ hx _ 4 ++ [47] ++ hx _ 4 ++ [47] ++ hx _ 4 ++ [47] ++ hx _ 4 = _
  simp only [List.nil_append, List.append_assoc])
theorem l03T_ac (a : Nat → UInt8) (h : List Blk) : AC Tryd.prog 46 [.agg (Bs 16 a).toArray] h (.string (mtT a)) h := by
  (refine AC_begin (fun _ _ => Tryd.call46 _ _) Tryd.func46 rfl Tryd.ntmps46 Tryd.results46 (fun hwf => ?_); simp only [List.length_cons, List.length_nil, Nat.reduceAdd, Nat.reduceSub, List.replicate, List.cons_append, List.nil_append])
  (refine sN0 ?_)
  refine WA_forP (fun k => [(3, .string (tP a k)), (4, .int .i64 k), (5, J), (6, J), (7, J), (8, J), (9, J), (10, J), (11, J), (12, J), (13, J), (14, J), (15, J), (16, J), (17, J), (18, J), (19, J), (20, J), (21, J), (22, J), (23, J), (24, J), (25, J), (26, J), (27, J), (28, J), (29, J), (30, J), (31, J), (32, J)]) (fun k => []) (4) ?_ ?_ ?_ <;> (try simp only [patT_cons, patT_nil, patL_cons, patL_nil, list_set_zero, list_set_succ, blk_set_zero, blk_set_succ])
  · (exact sS @tP_zero)
  · intro k hk
    have hq : ∀ (M : List Blk) (bl : Nat) (r : Bool), M[bl]? = some ⟨[B (a (k * 4)), B (a (k * 4 + 1)), B (a (k * 4 + 2)), B (a (k * 4 + 3))], r⟩ → AC Tryd.prog 70 [sl bl 0 4 1] M (.string (hxT (fun t => a (k * 4 + t)) 4)) M := fun M bl r hb => hexS_ac (f := fun t => a (k * 4 + t)) (n := 4) hb (by omega)
    have hs : (tP a (k + 1)) = (if k = 0 then ⟨#[]⟩ else tP a k ++ ⟨#[47]⟩) ++ hxT (fun t => a (k * 4 + t)) 4 := rfl
    by_cases h0 : k = 0
    · subst h0
      (repeat (first | ((first | (refine And.intro ?_ ?_; focus exact PLA) | ((first | with_reducible apply callB_i | with_reducible apply callK_intro | with_reducible apply callQ_i); (focus (first | assumption | (with_reducible apply hq <;> (first | assumption | (refine look_old ?_ _; assumption) | rfl | (simp (disch := omega) only [go_sem]; first | done | rfl) | omega | decide | (simp; done))))); (try exact WP_au)) | refine WA_seq (WA_region ?_) | refine WA_region ?_ | refine WA_exit ?_); try simp (maxSteps := 1000000) (disch := first | omega | rfl | decide | (simp only [List.length_cons, List.length_nil, List.length_append, LV] <;> omega)) only [go_sem, Nat.reduceAdd, Int.reduceAdd, Int.reduceSub, Int.reduceMul, Bool.not_true, Bool.not_false, show decide (0 < 0) = false from rfl]) | (refine (WA_rb (id := 7) [17, 18] (SubM.refl _) mixedOk ?_); simp only [List.size_toArray, List.length_cons, List.length_nil]; (repeat (first | ((first | (refine And.intro ?_ ?_; focus exact PLA) | ((first | with_reducible apply callB_i | with_reducible apply callK_intro | with_reducible apply callQ_i); (focus (first | assumption | (with_reducible apply hq <;> (first | assumption | (refine look_old ?_ _; assumption) | rfl | (simp (disch := omega) only [go_sem]; first | done | rfl) | omega | decide | (simp; done))))); (try exact WP_au)) | refine RB_take false [0, 1, 2, 3, 5, 6, 7, 9, 10, 11, 13, 14, 15] 8 (by rfl) (by kernel_rfl) (by decide) (by decide +kernel) ?_ | refine RB_take true [4, 8, 12, 16] 4 (by rfl) (by kernel_rfl) (by decide) (by decide +kernel) ?_ | refine RB_exec 17 _ (by rfl) (by decide +kernel) (by decide +kernel) ?_ | refine RB_exec 18 _ (by rfl) (by decide +kernel) (by decide +kernel) ?_ | refine RB_take false [19, 20] 0 (by rfl) (by kernel_rfl) (by decide) (by decide +kernel) ?_ | refine RB_done (by decide +kernel) ?_); try simp (maxSteps := 1000000) (disch := first | omega | rfl | decide | (simp only [List.length_cons, List.length_nil, List.length_append, LV] <;> omega)) only [go_sem, Nat.reduceAdd, Int.reduceAdd, Int.reduceSub, Int.reduceMul, Bool.not_true, Bool.not_false, show decide (0 < 0) = false from rfl])))) | refine WA_seq ?_ | refine WA_block ?_ | (refine WA_skip ?_; try simp only [go_sem]) | (refine WA_ret ?_; try simp only [go_sem]) | refine WA_ct rfl ?_ | refine WA_cf rfl ?_))
      (exact gCE @hs [0])
    · rw [if_neg h0] at hs
      have z1 := tP_size a k
      have z2 : (⟨#[47]⟩ : ByteArray).size = 1 := rfl
      have z3 : (tP a k ++ (⟨#[47]⟩ : ByteArray)).size = (tP a k).size + 1 := ByteArray.size_append
      have z4 := hxT_size (fun t => a (k * 4 + t)) 4
      (repeat (first | ((first | (refine And.intro ?_ ?_; focus exact PLA) | ((first | with_reducible apply callB_i | with_reducible apply callK_intro | with_reducible apply callQ_i); (focus (first | assumption | (with_reducible apply hq <;> (first | assumption | (refine look_old ?_ _; assumption) | rfl | (simp (disch := omega) only [go_sem]; first | done | rfl) | omega | decide | (simp; done))))); (try exact WP_au)) | refine WA_seq (WA_region ?_) | refine WA_region ?_ | refine WA_exit ?_); try simp (maxSteps := 1000000) (disch := first | omega | rfl | decide | (simp only [List.length_cons, List.length_nil, List.length_append, LV] <;> omega)) only [go_sem, Nat.reduceAdd, Int.reduceAdd, Int.reduceSub, Int.reduceMul, Bool.not_true, Bool.not_false, decide_eq_true (show 0 < k by omega)]) | (refine (WA_rb (id := 7) [17, 18] (SubM.refl _) mixedOk ?_); simp only [List.size_toArray, List.length_cons, List.length_nil]; (repeat (first | ((first | (refine And.intro ?_ ?_; focus exact PLA) | ((first | with_reducible apply callB_i | with_reducible apply callK_intro | with_reducible apply callQ_i); (focus (first | assumption | (with_reducible apply hq <;> (first | assumption | (refine look_old ?_ _; assumption) | rfl | (simp (disch := omega) only [go_sem]; first | done | rfl) | omega | decide | (simp; done))))); (try exact WP_au)) | refine RB_take false [0, 1, 2, 3, 5, 6, 7, 9, 10, 11, 13, 14, 15] 8 (by rfl) (by kernel_rfl) (by decide) (by decide +kernel) ?_ | refine RB_take true [4, 8, 12, 16] 4 (by rfl) (by kernel_rfl) (by decide) (by decide +kernel) ?_ | refine RB_exec 17 _ (by rfl) (by decide +kernel) (by decide +kernel) ?_ | refine RB_exec 18 _ (by rfl) (by decide +kernel) (by decide +kernel) ?_ | refine RB_take false [19, 20] 0 (by rfl) (by kernel_rfl) (by decide) (by decide +kernel) ?_ | refine RB_done (by decide +kernel) ?_); try simp (maxSteps := 1000000) (disch := first | omega | rfl | decide | (simp only [List.length_cons, List.length_nil, List.length_append, LV] <;> omega)) only [go_sem, Nat.reduceAdd, Int.reduceAdd, Int.reduceSub, Int.reduceMul, Bool.not_true, Bool.not_false, decide_eq_true (show 0 < k by omega)])))) | refine WA_seq ?_ | refine WA_block ?_ | (refine WA_skip ?_; try simp only [go_sem]) | (refine WA_ret ?_; try simp only [go_sem]) | refine WA_ct rfl ?_ | refine WA_cf rfl ?_))
      (exact gCE @hs [0])
  · (refine sN0 ?_)
    (exact sR @tP_all)

theorem mtS_ac (a : Nat → UInt8) (h : List Blk) : AC Tryd.prog 22 [.agg (Bs 16 a).toArray] h (.string (mtT a)) h := by
  (refine AC_begin (fun _ _ => Tryd.call22 _ _) Tryd.func22 rfl Tryd.ntmps22 Tryd.results22 (fun hwf => ?_); simp only [List.length_cons, List.length_nil, Nat.reduceAdd, Nat.reduceSub, List.replicate, List.cons_append, List.nil_append])
  (refine sW0 @l03T_ac ?_)
  (exact sR0)

theorem cirS_no {b n : Nat} (hn : n ≠ 4) (hn2 : n ≤ 1000) (h : List Blk) : AC Tryd.prog 16 [sl b 0 n 1] h (.tuple #[.agg (Bs 16 zeroF).toArray, .int .i64 2]) h := by
  have hb : (n != 4) = true := by simpa using hn
  (refine AC_begin (fun _ _ => Tryd.call16 _ _) Tryd.func16 rfl Tryd.ntmps16 Tryd.results16 (fun hwf => ?_); simp only [List.length_cons, List.length_nil, Nat.reduceAdd, Nat.reduceSub, List.replicate, List.cons_append, List.nil_append])
  (refine sN @hb ?_)
  (exact sR0)
theorem cirS_ok {h : List Blk} {b : Nat} {f : Nat → UInt8} {r : Bool} (hb : h[b]? = some ⟨Bs 4 f, r⟩) : AC Tryd.prog 16 [sl b 0 4 1] h (.tuple #[.agg (Bs 16 (circF f)).toArray, .int .i64 0]) h := by
  have hbl := blt hb
  (refine AC_begin (fun _ _ => Tryd.call16 _ _) Tryd.func16 rfl Tryd.ntmps16 Tryd.results16 (fun hwf => ?_); simp only [List.length_cons, List.length_nil, Nat.reduceAdd, Nat.reduceSub, List.replicate, List.cons_append, List.nil_append])
  (refine sY0 @circS_ac ?_)
  (exact sR0)

theorem cirI_no {b n : Nat} (hn : n ≠ 4) (hn2 : n ≤ 1000) (h : List Blk) : AC Tryd.prog 15 [sl b 0 n 1] h (.tuple #[.agg (Bs 16 zeroF).toArray, .int .i64 2]) h := by
  have hb : (n != 4) = true := by simpa using hn
  (refine AC_begin (fun _ _ => Tryd.call15 _ _) Tryd.func15 rfl Tryd.ntmps15 Tryd.results15 (fun hwf => ?_); simp only [List.length_cons, List.length_nil, Nat.reduceAdd, Nat.reduceSub, List.replicate, List.cons_append, List.nil_append])
  (refine sN @hb ?_)
  (exact sR0)
theorem cirI_ok {h : List Blk} {b : Nat} {f : Nat → UInt8} {r : Bool} (hb : h[b]? = some ⟨Bs 4 f, r⟩) : AC Tryd.prog 15 [sl b 0 4 1] h (.tuple #[.agg (Bs 16 (circF f)).toArray, .int .i64 0]) h := by
  have hbl := blt hb
  (refine AC_begin (fun _ _ => Tryd.call15 _ _) Tryd.func15 rfl Tryd.ntmps15 Tryd.results15 (fun hwf => ?_); simp only [List.length_cons, List.length_nil, Nat.reduceAdd, Nat.reduceSub, List.replicate, List.cons_append, List.nil_append])
  (refine sN0 ?_)
  refine WA_forP (fun k => [(5, J), (6, J), (12, .int .i64 k), (13, J), (14, J), (15, J), (16, J), (17, J), (18, J), (19, J), (20, J), (21, J), (22, J), (23, J), (24, J), (25, J), (26, J), (27, J), (28, J), (29, J), (30, J), (31, J)]) (fun k => [(1, ⟨Bs 16 (pre (k * 4) (circF f) fun _ => 0), true⟩)]) (4) ?_ ?_ ?_ <;> (try simp only [patT_cons, patT_nil, patL_cons, patL_nil, list_set_zero, list_set_succ, blk_set_zero, blk_set_succ])
  · rw [Nat.zero_mul, pre_zero]
    (exact sS0)
  · intro i hi
    (refine sN0 ?_)
    refine WA_forP (fun k => [(6, J), (15, .int .i64 k), (16, J), (17, J), (18, J), (19, J), (20, J), (21, J), (22, J), (23, J), (24, J), (25, J), (26, J), (27, J), (28, J), (29, J), (30, J)]) (fun k => [(1, ⟨Bs 16 (pre (i * 4 + k) (circF f) fun _ => 0), true⟩)]) (4) ?_ ?_ ?_ <;> (try simp only [patT_cons, patT_nil, patL_cons, patL_nil, list_set_zero, list_set_succ, blk_set_zero, blk_set_succ])
    · (exact sS0)
    · intro j hj
      (repeat (first | ((first | (refine And.intro ?_ ?_; focus exact PLA) | refine WA_seq (WA_region ?_) | refine WA_region ?_ | refine WA_exit ?_); try simp (maxSteps := 1000000) (disch := first | omega | rfl | decide | (simp only [List.length_cons, List.length_nil, List.length_append, LV] <;> omega)) only [go_sem, Nat.reduceAdd, Int.reduceAdd, Int.reduceSub, Int.reduceMul, Bool.not_true, Bool.not_false, look_old hb, circ_at hj, upd_pre]) | (refine (WA_rb (id := 10) [12] (SubM.refl _) mixedOk ?_); simp only [List.size_toArray, List.length_cons, List.length_nil]; (repeat (first | ((first | (refine And.intro ?_ ?_; focus exact PLA) | refine RB_take false [0, 1, 2, 3, 4, 5, 6, 7, 8, 10] 3 (by rfl) (by kernel_rfl) (by decide) (by decide +kernel) ?_ | refine RB_take true [9] 2 (by rfl) (by kernel_rfl) (by decide) (by decide +kernel) ?_ | refine RB_take false [11] 1 (by rfl) (by kernel_rfl) (by decide) (by decide +kernel) ?_ | refine RB_exec 12 _ (by rfl) (by decide +kernel) (by decide +kernel) ?_ | refine RB_done (by decide +kernel) ?_); try simp (maxSteps := 1000000) (disch := first | omega | rfl | decide | (simp only [List.length_cons, List.length_nil, List.length_append, LV] <;> omega)) only [go_sem, Nat.reduceAdd, Int.reduceAdd, Int.reduceSub, Int.reduceMul, Bool.not_true, Bool.not_false, look_old hb, circ_at hj, upd_pre])))) | refine WA_seq ?_ | refine WA_block ?_ | (refine WA_skip ?_; try simp only [go_sem]) | (refine WA_ret ?_; try simp only [go_sem]) | refine WA_ct rfl ?_ | refine WA_cf rfl ?_))
      (exact sS0)
    · (refine sN0 ?_)
      rw [show (i + 1) * 4 = i * 4 + 4 by omega]
      (exact sS0)
  · (refine sN0 ?_)
    (exact sR @Bs_pre)

end Go.Proofs.YtalbdgkbinndlaaDoor
/- Opaque memory that is longer. -/
namespace Go.Proofs.YtalbdgkbinndlaaDoor
set_option linter.unusedSimpArgs false
set_option linter.unusedVariables false
set_option maxRecDepth 20000
set_option maxHeartbeats 1000000
open Go.Abs

theorem cv_app {h H : List Blk} {cv : Value} (c : Cv h cv) (e : ∃ L, H = h ++ L) : Cv H cv := by
  obtain ⟨L, rfl⟩ := e
  exact c.app L
end Go.Proofs.YtalbdgkbinndlaaDoor
/- Ranks: the reference. -/
namespace Go.Proofs.YtalbdgkbinndlaaDoor
set_option linter.unusedSimpArgs false
set_option linter.unusedVariables false
set_option maxRecDepth 20000
set_option maxHeartbeats 1000000
open Go.Abs

theorem bit0 (a i : Nat) : (a >>> i &&& 1 == 0) = !a.testBit i := by
  rw [← bit_N, Nat.and_one_is_mod]
  rcases Nat.mod_two_eq_zero_or_one (a >>> i) with h | h <;> rw [h] <;> rfl
theorem Is_snoc' {n : Nat} {f : Nat → Int} {x : Int} (h : f n = x) : Is n f ++ [.int .i64 x] = Is (n + 1) f := by rw [← h]; exact Is_snoc f
theorem upd_id {α : Type} (f : Nat → α) (i : Nat) : upd f i (f i) = f := by
  funext j; unfold upd; split
  · rename_i h; rw [h]
  · rfl
theorem aOf_pre4 (R : Nat) (a : Nat → UInt8) (E : Nat → Nat → UInt8) (q : Nat) (g x : Nat → UInt8) : aOf R a (upd E q (pre 4 g x)) = aOf R a (upd E q g) := by
  funext n
  unfold aOf
  split
  · unfold upd
    split
    · exact if_pos (Nat.mod_lt n (by omega))
    · rfl
  · rfl
/-- The list of rows, as they stand. -/
def rwF (R : Nat) (s : Nat → Nat) : Nat → Int := fun p => ((kp R (s p) : Nat) : Int)
theorem rwF_sw (R : Nat) (s : Nat → Nat) (i k : Nat) : upd (upd (rwF R s) i (rwF R s k)) k ((kp R (s i) : Nat) : Int) = rwF R (swS s i k) := by
  funext p
  unfold upd rwF swS upd
  by_cases h1 : p = k
  · rw [if_pos h1, if_pos h1]
  · rw [if_neg h1, if_neg h1]
    by_cases h2 : p = i
    · rw [if_pos h2, if_pos h2]
    · rw [if_neg h2, if_neg h2]

theorem rankS_ac {m : Nat} (h0 : 256 ≤ m) (h1 : m < 512) (a : Nat → UInt8) {R C : Nat} (hR : R < 16) (hC : C < 16) (h : List Blk) :
    AC Tryd.prog 59 [.int .i64 m, .agg (Bs 16 a).toArray, .int .i64 R, .int .i64 C] h (.int .i64 (((rkS m (cn R 4) C (E0 R a) 4).r : Nat) : Int)) h := by
  have hL := cn_le R 4
  (refine AC_begin (fun _ _ => Tryd.call59 _ _) Tryd.func59 rfl Tryd.ntmps59 Tryd.results59 (fun hwf => ?_); simp only [List.length_cons, List.length_nil, Nat.reduceAdd, Nat.reduceSub, List.replicate, List.cons_append, List.nil_append])
  (refine sN (@yieldA_at 4 50) ?_)
  refine WA_forP (fun k => [(9, sl (h.length + 1) 0 (cn R k) 1), (10, .int .i64 k), (20, J), (21, J), (22, J), (23, J), (24, J), (25, J), (26, J), (27, J), (28, J), (29, J), (30, J), (31, J), (32, J), (33, J), (34, J)]) (fun k => [(1, ⟨Is (cn R k) (rwF R fun p => p), true⟩)]) (4) ?_ ?_ ?_ <;> (try simp only [patT_cons, patT_nil, patL_cons, patL_nil, list_set_zero, list_set_succ, blk_set_zero, blk_set_succ])
  · (refine Drop_slots (by first | exact Nat.le_refl _ | simp) ?_; focus ((try simp only [JL_same, JL_J, JL_nil, Int.reduceAdd, Nat.sub_sub, Int.natCast_add, Int.natCast_one, Int.natCast_zero, Int.cast_ofNat_Int, Nat.add_zero, Bool.false_eq_true, if_false, if_true, cn]); (try exact JL_refl _)))
  · intro i hi
    have hle := cn_le R i
    have hsR := Nat.shiftRight_le R i
    cases hb : R.testBit i
    · (refine sN (And.intro @hb (@yieldA_at 4 50)) ?_)
      rw [cn_f hb]
      (exact sS0)
    · have hsn : Is (cn R i) (rwF R fun p => p) ++ [.int .i64 ((i : Nat) : Int)] = Is (cn R (i + 1)) (rwF R fun p => p) := by
        rw [cn_t hb]; exact Is_snoc' (by unfold rwF; rw [kp_cn R hR i hi hb])
      (refine sN (And.intro @hb (And.intro @lit1I (And.intro @sub1 (And.intro @hsn (@yieldA_at 4 50))))) ?_)
      (exact gCE (cn_t hb) [0, 3])
  · (refine sN (@yieldA_at 4 50) ?_)
    refine WA_forP (fun k => [(11, .int .i64 (((rkS m (cn R 4) C (E0 R a) k).r : Nat) : Int)), (12, .int .i64 k), (13, J), (14, J), (15, J), (16, J), (17, J), (18, J), (19, J), (35, J), (36, J), (37, J), (38, J), (39, J), (40, J), (41, J), (42, J), (43, J), (44, J), (45, J), (46, J), (47, J), (48, J), (49, J), (50, J), (51, J), (52, J), (53, J), (54, J), (55, J), (56, J), (57, J), (58, J), (59, J), (60, J), (61, J), (62, J), (63, J), (64, J), (65, J), (66, J), (67, J), (68, J), (69, J), (70, J), (71, J), (72, J), (73, J), (74, J), (75, J), (76, J), (77, J), (78, J), (79, J), (80, J), (81, J), (82, J), (83, J), (84, J), (85, J), (86, J), (87, J), (88, J), (89, J), (90, J), (91, J), (92, J), (93, J), (94, J), (95, J), (96, J), (97, J), (98, J), (99, J), (100, J), (101, J), (102, J), (103, J), (104, J), (105, J), (106, J), (107, J), (108, J), (109, J), (110, J), (111, J), (112, J), (113, J), (114, J), (115, J), (116, J), (117, J), (118, J), (119, J), (120, J), (121, J), (122, J), (123, J), (124, J), (125, J), (126, J), (127, J), (128, J), (129, J), (130, J), (131, J), (132, J)]) (fun k => [(0, ⟨Bs 16 (aOf R a (rkS m (cn R 4) C (E0 R a) k).E), true⟩), (1, ⟨Is (cn R 4) (rwF R (rkS m (cn R 4) C (E0 R a) k).s), true⟩)]) (4) ?_ ?_ ?_ <;> (try simp only [patT_cons, patT_nil, patL_cons, patL_nil, list_set_zero, list_set_succ, blk_set_zero, blk_set_succ])
    · rw [show (rkS m (cn R 4) C (E0 R a) 0).E = E0 R a from rfl, aOf_start hR]
      (exact sS (show (rkS m (cn R 4) C (E0 R a) 0).r = 0 from rfl))
    · intro j hj
      obtain ⟨hP, hr⟩ := rkS_inv m (cn R 4) C (E0 R a) j
      have hb0 := bit0 C j
      have hsC := Nat.shiftRight_le C j
      cases hb : C.testBit j <;> rw [hb] at hb0
      · rw [rkS_f hb]
        (refine sN (And.intro @hb0 (@yieldA_at 4 50)) ?_)
        (exact sS0)
      · rw [rkS_t hb]
        generalize rkS m (cn R 4) C (E0 R a) j = S at *
        obtain ⟨E, s, r⟩ := S
        simp only [] at hP hr ⊢
        have hgl := gp_le (E := E) (s := s) (j := j) hr
        (refine sN (And.intro @hb0 (@yieldA_at 4 50)) ?_)
        refine WA_forP (fun k => [(13, .int .i64 ((r + k : Nat) : Int)), (46, J), (47, J), (48, J), (49, J), (50, J), (51, J), (52, J), (53, J), (54, J), (55, J), (56, J), (57, J), (58, J), (59, J), (60, J), (61, J), (62, J)]) (fun k => []) (gpC (cn R 4) E s r j) ?_ ?_ ?_ <;> (try simp only [patT_cons, patT_nil, patL_cons, patL_nil, list_set_zero, list_set_succ, blk_set_zero, blk_set_succ])
        · (exact sS0)
        · intro i hi
          obtain ⟨g1, g2⟩ := gp_go hi
          have hs := hP.lt (r + i) g1
          have hk := (kp_lt R hR (s (r + i)) (by omega) hs).1
          have hat := aOf_at hR (a := a) (E := E) hs hj
          have hv : rwF R s (r + i) = ((kp R (s (r + i)) : Nat) : Int) := rfl
          (refine sN (And.intro (decide_eq_true g1) (And.intro @hv (And.intro @hat (And.intro @g2 (@yieldA_at 4 50))))) ?_)
          (exact sS @Nat.add_assoc)
        · by_cases hpv : r + gpC (cn R 4) E s r j = cn R 4
          · have hg := gstep_no (m := m) (L := cn R 4) (j := j) (S := ⟨E, s, r⟩) hpv
            rw [hg]
            (refine sN (And.intro @hpv (And.intro (show decide (cn R 4 < cn R 4) = false from decide_eq_false (Nat.lt_irrefl _)) (@yieldA_at 4 50))) ?_)
            (exact sS0)
          · have hg := gstep_yes (m := m) (L := cn R 4) (j := j) (S := ⟨E, s, r⟩) hpv
            simp only [] at hg
            have hge := gp_end (E := E) (s := s) (j := j) hr hL hpv
            rw [hg]
            simp only []
            clear hg
            have hpl : r + gpC (cn R 4) E s r j < cn R 4 := by omega
            have hrp : r ≤ r + gpC (cn R 4) E s r j := Nat.le_add_right _ _
            generalize r + gpC (cn R 4) E s r j = p at *
            have hs := hP.lt p hpl
            have hk := (kp_lt R hR (s p) (by omega) hs).1
            have hat := aOf_at hR (a := a) (E := E) hs hj
            have hv : rwF R s p = ((kp R (s p) : Nat) : Int) := rfl
            have hr4 : r < cn R 4 := by omega
            have hpb : (p == cn R 4) = false := by simpa using hpv
            have hPs := Pm_sw hP hpl hr4
            (refine sW (And.intro (decide_eq_true hpl) (And.intro @hv (And.intro @hat (And.intro @hge (And.intro @hpb (And.intro @rwF_sw (@yieldA_at 4 50))))))) (invS_ac h0 h1) ?_)
            have hsr : s p = swS s p r r := (swS_at s p r).symm
            generalize inv m (E (s p) j) = v
            have hk0 := hk
            generalize swS s p r = q at *
            refine WA_forP (fun k => [(16, .int .i64 ((r + 1 + k : Nat) : Int)), (17, J), (18, J), (19, J), (91, J), (92, J), (93, J), (94, J), (95, J), (96, J), (97, J), (98, J), (99, J), (100, J), (101, J), (102, J), (103, J), (104, J), (105, J), (106, J), (107, J), (108, J), (109, J), (110, J), (111, J), (112, J), (113, J), (114, J), (115, J), (116, J), (117, J), (118, J), (119, J), (120, J), (121, J), (122, J), (123, J), (124, J), (125, J), (126, J), (127, J), (128, J), (129, J), (130, J)]) (fun k => [(0, ⟨Bs 16 (aOf R a (elE m q r j v E k)), true⟩)]) (cn R 4 - (r + 1)) ?_ ?_ ?_ <;> (try simp only [patT_cons, patT_nil, patL_cons, patL_nil, list_set_zero, list_set_succ, blk_set_zero, blk_set_succ])
            · (exact sS0)
            · intro t ht
              have hn : r + 1 + t < cn R 4 := by omega
              have hq := hPs.lt _ hn
              have hqr := hPs.lt r hr4
              have hkq := (kp_lt R hR _ (by omega) hq).1
              have hne : q r ≠ q (r + 1 + t) := fun e => absurd (hPs.inj r _ hr4 hn e) (by omega)
              have hvq : rwF R q (r + 1 + t) = ((kp R (q (r + 1 + t)) : Nat) : Int) := rfl
              have hel : elE m q r j v E (t + 1) = upd (elE m q r j v E t) (q (r + 1 + t)) (rowN m (tm m (elE m q r j v E t (q (r + 1 + t)) j) v) (elE m q r j v E t (q (r + 1 + t))) (elE m q r j v E t (q r))) := rfl
              rw [hel]
              clear hel
              generalize elE m q r j v E t = F
              have hat2 := aOf_at hR (a := a) (E := F) hq hj
              generalize hqq : q (r + 1 + t) = z at *
              (refine sW (And.intro (decide_eq_true hn) (And.intro @hvq (And.intro @hat2 (@yieldA_at 4 50)))) (tmS_ac h0 h1) ?_)
              generalize tm m (F z j) v = f
              refine WA_forP (fun k => [(19, .int .i64 k), (109, J), (110, J), (111, J), (112, J), (113, J), (114, J), (115, J), (116, J), (117, J), (118, J), (119, J), (120, J), (121, J), (122, J), (123, J), (124, J), (125, J), (126, J), (127, J), (128, J), (129, J), (130, J)]) (fun k => [(0, ⟨Bs 16 (aOf R a (upd F z (pre k (rowN m f (F z) (F (q r))) (F z)))), true⟩)]) (4) ?_ ?_ ?_ <;> (try simp only [patT_cons, patT_nil, patL_cons, patL_nil, list_set_zero, list_set_succ, blk_set_zero, blk_set_succ])
              · rw [pre_zero, upd_id]
                (exact sS0)
              · intro c hc
                have e1 : aOf R a (upd F z (pre c (rowN m f (F z) (F (q r))) (F z))) (kp R z * 4 + c) = F z c := by
                  rw [aOf_at hR hq hc]; unfold upd; rw [if_pos rfl]; exact pre_self c _ _
                have e2 : aOf R a (upd F z (pre c (rowN m f (F z) (F (q r))) (F z))) (kp R (s p) * 4 + c) = F (q r) c := by
                  rw [hsr, aOf_at hR hqr hc]; unfold upd; rw [if_neg hne]
                have e3 : upd (aOf R a (upd F z (pre c (rowN m f (F z) (F (q r))) (F z)))) (kp R z * 4 + c) (F z c ^^^ tm m f (F (q r) c)) = aOf R a (upd F z (pre (c + 1) (rowN m f (F z) (F (q r))) (F z))) := by
                  rw [aOf_set hR hq hc]; exact congrArg (aOf R a) (upd2_pre (E := F) (q := z) (k := c) (g := rowN m f (F z) (F (q r))) (x := F z))
                (repeat (first | ((first | (refine And.intro ?_ ?_; focus exact PLA) | ((first | with_reducible apply callB_i | with_reducible apply callK_intro | with_reducible apply callQ_i); (focus (first | assumption | (with_reducible apply tmS_ac h0 h1 <;> (first | assumption | rfl | (simp (disch := omega) only [go_sem]; first | done | rfl) | omega | decide | (simp; done))))); (try exact WP_au)) | refine WA_seq (WA_region ?_) | refine WA_region ?_ | refine WA_exit ?_); try simp (maxSteps := 1000000) (disch := first | omega | rfl | decide | (simp only [List.length_cons, List.length_nil, List.length_append, LV] <;> omega)) only [go_sem, Nat.reduceAdd, Int.reduceAdd, Int.reduceSub, Int.reduceMul, Bool.not_true, Bool.not_false, e1, e2, e3, yieldA_at 4 50]) | (refine (WA_rb (id := 28) [18] (SubM.refl _) mixedOk ?_); simp only [List.size_toArray, List.length_cons, List.length_nil]; (repeat (first | ((first | (refine And.intro ?_ ?_; focus exact PLA) | ((first | with_reducible apply callB_i | with_reducible apply callK_intro | with_reducible apply callQ_i); (focus (first | assumption | (with_reducible apply tmS_ac h0 h1 <;> (first | assumption | rfl | (simp (disch := omega) only [go_sem]; first | done | rfl) | omega | decide | (simp; done))))); (try exact WP_au)) | refine RB_take false [0, 1, 2, 3, 4, 5, 7, 8, 9, 10, 11, 12, 16] 6 (by rfl) (by kernel_rfl) (by decide) (by decide +kernel) ?_ | refine RB_take true [6, 13, 14] 3 (by rfl) (by kernel_rfl) (by decide) (by decide +kernel) ?_ | refine RB_take false [15, 17] 1 (by rfl) (by kernel_rfl) (by decide) (by decide +kernel) ?_ | refine RB_exec 18 _ (by rfl) (by decide +kernel) (by decide +kernel) ?_ | refine RB_done (by decide +kernel) ?_); try simp (maxSteps := 1000000) (disch := first | omega | rfl | decide | (simp only [List.length_cons, List.length_nil, List.length_append, LV] <;> omega)) only [go_sem, Nat.reduceAdd, Int.reduceAdd, Int.reduceSub, Int.reduceMul, Bool.not_true, Bool.not_false, e1, e2, e3, yieldA_at 4 50])))) | refine WA_seq ?_ | refine WA_block ?_ | (refine WA_skip ?_; try simp only [go_sem]) | (refine WA_ret ?_; try simp only [go_sem]) | refine WA_ct rfl ?_ | refine WA_cf rfl ?_))
                (exact sS0)
              · rw [aOf_pre4]
                (refine sN (@yieldA_at 4 50) ?_)
                (exact sS @Nat.add_assoc)
            · have hne : decide (r + 1 + (cn R 4 - (r + 1)) < cn R 4) = false := decide_eq_false (by omega)
              (refine sN (And.intro @hne (@yieldA_at 4 50)) ?_)
              (exact sS0)
    · (refine sN (@yieldA_at 4 50) ?_)
      (exact sR0)

end Go.Proofs.YtalbdgkbinndlaaDoor
/- Matrices of texts: both sides. -/
namespace Go.Proofs.YtalbdgkbinndlaaDoor
set_option linter.unusedSimpArgs false
set_option linter.unusedVariables false
set_option maxRecDepth 20000
set_option maxHeartbeats 1000000
open Go.Abs

/-- The i-th piece of a text. -/
def pcF (s : ByteArray) (i : Nat) : ByteArray := (spA s 47).getD i ⟨#[]⟩
def rowOk (p : ByteArray) : Bool := hexOk p && p.size == 8
def pmOk (s : ByteArray) : Bool := decide ((spA s 47).length = 4) && allT (fun i => rowOk (pcF s i)) 4
def pmG (s : ByteArray) : Nat → UInt8 := fun n => unV (pcF s (n / 4)) (n % 4)
def pmF (s : ByteArray) : Nat → UInt8 := if pmOk s then pmG s else zeroF
def pmC (s : ByteArray) : Int := if pmOk s then 0 else 6
theorem pc_get {s : ByteArray} {q : Nat} (h : q < (spA s 47).length) : (Ss (spA s 47))[q]? = some (.string (pcF s q)) := Ss_get h
theorem pcF_le {s : ByteArray} {i : Nat} : (pcF s i).size ≤ s.size := by
  unfold pcF
  rw [List.getD_eq_getElem?_getD]
  cases h : (spA s 47)[i]? with
  | none => exact Nat.zero_le _
  | some p => exact spA_piece (List.mem_of_getElem? h)
theorem pmG_at (s : ByteArray) {q j : Nat} (hj : j < 4) : unV (pcF s q) j = pmG s (q * 4 + j) := by
  unfold pmG; rw [show (q * 4 + j) / 4 = q by omega, show (q * 4 + j) % 4 = j by omega]
theorem pm_over (s : ByteArray) (q : Nat) : over (pre (q * 4) (pmG s) zeroF) (q * 4) 4 (unV (pcF s q)) = pre ((q + 1) * 4) (pmG s) zeroF := by
  funext i
  unfold over pre
  by_cases h1 : q * 4 ≤ i ∧ i < q * 4 + 4
  · rw [if_pos h1, if_pos (by omega), pmG_at s (show i - q * 4 < 4 by omega), show q * 4 + (i - q * 4) = i by omega]
  · rw [if_neg h1]
    by_cases h2 : i < q * 4
    · rw [if_pos h2, if_pos (by omega)]
    · rw [if_neg h2, if_neg (by omega)]
theorem rowOk_t {p : ByteArray} (h : rowOk p = true) : hexOk p = true ∧ p.size / 2 = 4 := by
  unfold rowOk at h
  rw [Bool.and_eq_true, beq_iff_eq] at h
  exact ⟨h.1, by omega⟩
theorem rowOk_f {p : ByteArray} (h : rowOk p = false) (hx : hexOk p = true) : ((p.size / 2 : Nat) != 4) = true := by
  unfold rowOk at h
  rw [hx, Bool.true_and, beq_eq_false_iff_ne] at h
  have : p.size % 2 = 0 := by
    unfold hexOk at hx
    rw [Bool.and_eq_true, beq_iff_eq] at hx; exact hx.1
  rw [bne_iff_ne]; omega
theorem splitS_ac_47 {s : ByteArray} (hs : s.size ≤ 2147483648) (h : List Blk) : AC Tryd.prog 49 [.string s, B 47] h (sl h.length 0 (spA s 47).length 1) (h ++ [⟨Ss (spA s 47), true⟩]) := splitS_ac 47 hs h

attribute [local irreducible] ch unV pcF spA hexOk
theorem pmS_bad {s : ByteArray} (hs : s.size ≤ 2147483648) (h4 : (spA s 47).length ≠ 4) (h : List Blk) : AC Tryd.prog 21 [.string s] h (.tuple #[.agg (Bs 16 zeroF).toArray, .int .i64 6]) h := by
  have hl := spA_le s 47
  have hne : (((spA s 47).length : Nat) != 4) = true := by rw [bne_iff_ne]; exact h4
  (refine AC_begin (fun _ _ => Tryd.call21 _ _) Tryd.func21 rfl Tryd.ntmps21 Tryd.results21 (fun hwf => ?_); simp only [List.length_cons, List.length_nil, Nat.reduceAdd, Nat.reduceSub, List.replicate, List.cons_append, List.nil_append])
  (refine sW (And.intro @hne (@yieldA_at 2 31)) (splitS_ac_47 hs) ?_)
  (exact sR @zeroF.eq_1)

theorem pmI_bad {s : ByteArray} (hs : s.size ≤ 2147483648) (h4 : (spA s 47).length ≠ 4) (h : List Blk) : AC Tryd.prog 19 [.string s] h (.tuple #[.agg (Bs 16 zeroF).toArray, .int .i64 6]) h := by
  have hl := spA_le s 47
  have hne : (((spA s 47).length : Nat) != 4) = true := by rw [bne_iff_ne]; exact h4
  (refine AC_begin (fun _ _ => Tryd.call19 _ _) Tryd.func19 rfl Tryd.ntmps19 Tryd.results19 (fun hwf => ?_); simp only [List.length_cons, List.length_nil, Nat.reduceAdd, Nat.reduceSub, List.replicate, List.cons_append, List.nil_append])
  (refine sW (And.intro @hne (@yieldA_at 2 31)) (splitI_ac hs) ?_)
  (exact sR @zeroF.eq_1)

theorem pmS_ok {s : ByteArray} (hs : s.size ≤ 2147483648) (h4 : (spA s 47).length = 4) (hall : allT (fun i => rowOk (pcF s i)) 4 = true) (h : List Blk) : AC Tryd.prog 21 [.string s] h (.tuple #[.agg (Bs 16 (pmG s)).toArray, .int .i64 0]) h := by
  have hget : ∀ q, q < 4 → (Ss (spA s 47))[q]? = some (.string (pcF s q)) := fun q hq => pc_get (by omega)
  (refine AC_begin (fun _ _ => Tryd.call21 _ _) Tryd.func21 rfl Tryd.ntmps21 Tryd.results21 (fun hwf => ?_); simp only [List.length_cons, List.length_nil, Nat.reduceAdd, Nat.reduceSub, List.replicate, List.cons_append, List.nil_append])
  (refine sW (And.intro @h4 (@yieldA_at 2 31)) (splitS_ac 47 hs) ?_)
  refine WA_forP (fun k => [(3, J), (6, .int .i64 k), (7, J), (8, J), (9, J), (17, J), (18, J), (19, J), (20, J), (21, J), (22, J), (23, J), (24, J), (25, J), (26, J), (27, J), (28, J), (29, J), (30, J), (31, J), (32, J), (33, J), (34, J), (35, J), (36, J), (37, J), (38, J), (39, J), (40, J), (41, J), (42, J), (43, J), (44, J), (45, J), (46, J), (47, J), (48, J)]) (fun k => [(2, ⟨Bs 16 (pre (k * 4) (pmG s) zeroF), true⟩)]) (4) ?_ ?_ ?_ <;> (try simp only [patT_cons, patT_nil, patL_cons, patL_nil, list_set_zero, list_set_succ, blk_set_zero, blk_set_succ])
  · rw [Nat.zero_mul, pre_zero]
    (exact sS @zeroF.eq_1)
  · intro q hq
    obtain ⟨hx, h8⟩ := rowOk_t (allT_get hall hq)
    have hsz : (pcF s q).size ≤ 2147483648 := Nat.le_trans pcF_le hs
    have hok := fromS_ok hsz hx
    rw [h8] at hok
    (refine sW (And.intro (hget q hq) (And.intro @h4 (@yieldA_at 2 31))) @hok ?_)
    refine WA_forP (fun k => [(9, .int .i64 k), (37, J), (38, J), (39, J), (40, J), (41, J), (42, J), (43, J), (44, J), (45, J), (46, J), (47, J), (48, J)]) (fun k => [(2, ⟨Bs 16 (pre (q * 4 + k) (pmG s) zeroF), true⟩)]) (4) ?_ ?_ ?_ <;> (try simp only [patT_cons, patT_nil, patL_cons, patL_nil, list_set_zero, list_set_succ, blk_set_zero, blk_set_succ])
    · rw [Nat.add_zero]
      (exact sS0)
    · intro j hj
      (repeat (first | ((first | (refine And.intro ?_ ?_; focus exact PLA) | refine WA_seq (WA_region ?_) | refine WA_region ?_ | refine WA_exit ?_); try simp (maxSteps := 1000000) (disch := first | omega | rfl | decide | (simp only [List.length_cons, List.length_nil, List.length_append, LV] <;> omega)) only [go_sem, Nat.reduceAdd, Int.reduceAdd, Int.reduceSub, Int.reduceMul, Bool.not_true, Bool.not_false, pmG_at s hj, upd_pre, Nat.add_assoc, yieldA_at 2 31]) | (refine (WA_rb (id := 13) [8] (SubM.refl _) mixedOk ?_); simp only [List.size_toArray, List.length_cons, List.length_nil]; (repeat (first | ((first | (refine And.intro ?_ ?_; focus exact PLA) | refine RB_take false [0, 1, 2, 3, 4, 6] 3 (by rfl) (by kernel_rfl) (by decide) (by decide +kernel) ?_ | refine RB_take true [5] 2 (by rfl) (by kernel_rfl) (by decide) (by decide +kernel) ?_ | refine RB_take false [7] 1 (by rfl) (by kernel_rfl) (by decide) (by decide +kernel) ?_ | refine RB_exec 8 _ (by rfl) (by decide +kernel) (by decide +kernel) ?_ | refine RB_done (by decide +kernel) ?_); try simp (maxSteps := 1000000) (disch := first | omega | rfl | decide | (simp only [List.length_cons, List.length_nil, List.length_append, LV] <;> omega)) only [go_sem, Nat.reduceAdd, Int.reduceAdd, Int.reduceSub, Int.reduceMul, Bool.not_true, Bool.not_false, pmG_at s hj, upd_pre, Nat.add_assoc, yieldA_at 2 31])))) | refine WA_seq ?_ | refine WA_block ?_ | (refine WA_skip ?_; try simp only [go_sem]) | (refine WA_ret ?_; try simp only [go_sem]) | refine WA_ct rfl ?_ | refine WA_cf rfl ?_))
      (exact sS @Nat.add_assoc)
    · (refine sN (@yieldA_at 2 31) ?_)
      rw [show q * 4 + 4 = (q + 1) * 4 by omega]
      (exact gC [0, 1, 2])
  · (refine sN (@yieldA_at 2 31) ?_)
    rw [show 4 * 4 = 16 from rfl, Bs_pre]
    (exact sR0)
theorem pmS_no {s : ByteArray} (hs : s.size ≤ 2147483648) (h4 : (spA s 47).length = 4) (hall : allT (fun i => rowOk (pcF s i)) 4 = false) (h : List Blk) : AC Tryd.prog 21 [.string s] h (.tuple #[.agg (Bs 16 zeroF).toArray, .int .i64 6]) h := by
  have hget : ∀ q, q < 4 → (Ss (spA s 47))[q]? = some (.string (pcF s q)) := fun q hq => pc_get (by omega)
  obtain ⟨m, hm, hf, hall⟩ := allT_first hall
  have hm' : m < 4 := hm
  (refine AC_begin (fun _ _ => Tryd.call21 _ _) Tryd.func21 rfl Tryd.ntmps21 Tryd.results21 (fun hwf => ?_); simp only [List.length_cons, List.length_nil, Nat.reduceAdd, Nat.reduceSub, List.replicate, List.cons_append, List.nil_append])
  (refine sW (And.intro @h4 (@yieldA_at 2 31)) (splitS_ac 47 hs) ?_)
  refine WA_forP (fun k => [(3, J), (6, .int .i64 k), (7, J), (8, J), (9, J), (17, J), (18, J), (19, J), (20, J), (21, J), (22, J), (23, J), (24, J), (25, J), (26, J), (27, J), (28, J), (29, J), (30, J), (31, J), (32, J), (33, J), (34, J), (35, J), (36, J), (37, J), (38, J), (39, J), (40, J), (41, J), (42, J), (43, J), (44, J), (45, J), (46, J), (47, J), (48, J)]) (fun k => [(2, ⟨Bs 16 (pre (k * 4) (pmG s) zeroF), true⟩)]) (m) ?_ ?_ ?_ <;> (try simp only [patT_cons, patT_nil, patL_cons, patL_nil, list_set_zero, list_set_succ, blk_set_zero, blk_set_succ])
  · rw [Nat.zero_mul, pre_zero]
    (exact sS @zeroF.eq_1)
  · intro q hq
    obtain ⟨hx, h8⟩ := rowOk_t (allT_get hall hq)
    have hsz : (pcF s q).size ≤ 2147483648 := Nat.le_trans pcF_le hs
    have hok := fromS_ok hsz hx
    rw [h8] at hok
    (refine sW (And.intro (hget q (by omega)) (And.intro @h4 (@yieldA_at 2 31))) @hok ?_)
    refine WA_forP (fun k => [(9, .int .i64 k), (37, J), (38, J), (39, J), (40, J), (41, J), (42, J), (43, J), (44, J), (45, J), (46, J), (47, J), (48, J)]) (fun k => [(2, ⟨Bs 16 (pre (q * 4 + k) (pmG s) zeroF), true⟩)]) (4) ?_ ?_ ?_ <;> (try simp only [patT_cons, patT_nil, patL_cons, patL_nil, list_set_zero, list_set_succ, blk_set_zero, blk_set_succ])
    · rw [Nat.add_zero]
      (exact sS0)
    · intro j hj
      (repeat (first | ((first | (refine And.intro ?_ ?_; focus exact PLA) | refine WA_seq (WA_region ?_) | refine WA_region ?_ | refine WA_exit ?_); try simp (maxSteps := 1000000) (disch := first | omega | rfl | decide | (simp only [List.length_cons, List.length_nil, List.length_append, LV] <;> omega)) only [go_sem, Nat.reduceAdd, Int.reduceAdd, Int.reduceSub, Int.reduceMul, Bool.not_true, Bool.not_false, pmG_at s hj, upd_pre, Nat.add_assoc, yieldA_at 2 31]) | (refine (WA_rb (id := 13) [8] (SubM.refl _) mixedOk ?_); simp only [List.size_toArray, List.length_cons, List.length_nil]; (repeat (first | ((first | (refine And.intro ?_ ?_; focus exact PLA) | refine RB_take false [0, 1, 2, 3, 4, 6] 3 (by rfl) (by kernel_rfl) (by decide) (by decide +kernel) ?_ | refine RB_take true [5] 2 (by rfl) (by kernel_rfl) (by decide) (by decide +kernel) ?_ | refine RB_take false [7] 1 (by rfl) (by kernel_rfl) (by decide) (by decide +kernel) ?_ | refine RB_exec 8 _ (by rfl) (by decide +kernel) (by decide +kernel) ?_ | refine RB_done (by decide +kernel) ?_); try simp (maxSteps := 1000000) (disch := first | omega | rfl | decide | (simp only [List.length_cons, List.length_nil, List.length_append, LV] <;> omega)) only [go_sem, Nat.reduceAdd, Int.reduceAdd, Int.reduceSub, Int.reduceMul, Bool.not_true, Bool.not_false, pmG_at s hj, upd_pre, Nat.add_assoc, yieldA_at 2 31])))) | refine WA_seq ?_ | refine WA_block ?_ | (refine WA_skip ?_; try simp only [go_sem]) | (refine WA_ret ?_; try simp only [go_sem]) | refine WA_ct rfl ?_ | refine WA_cf rfl ?_))
      (exact sS @Nat.add_assoc)
    · (refine sN (@yieldA_at 2 31) ?_)
      rw [show q * 4 + 4 = (q + 1) * 4 by omega]
      (exact gC [0, 1, 2])
  · have hsz : (pcF s m).size ≤ 2147483648 := Nat.le_trans pcF_le hs
    cases hx : hexOk (pcF s m)
    · (refine sW (And.intro (hget m hm') (And.intro @h4 (@yieldA_at 2 31))) (fromS_no hsz hx) ?_)
      (exact sR @zeroF.eq_1)
    · have hne := rowOk_f hf hx
      (refine sW (And.intro (hget m hm') (And.intro @h4 (And.intro @hne (@yieldA_at 2 31)))) (fromS_ok hsz hx) ?_)
      (exact sR @zeroF.eq_1)

theorem pmI_ok {s : ByteArray} (hs : s.size ≤ 2147483648) (h4 : (spA s 47).length = 4) (hall : allT (fun i => rowOk (pcF s i)) 4 = true) (h : List Blk) : AC Tryd.prog 19 [.string s] h (.tuple #[.agg (Bs 16 (pmG s)).toArray, .int .i64 0]) h := by
  have hget : ∀ q, q < 4 → (Ss (spA s 47))[q]? = some (.string (pcF s q)) := fun q hq => pc_get (by omega)
  (refine AC_begin (fun _ _ => Tryd.call19 _ _) Tryd.func19 rfl Tryd.ntmps19 Tryd.results19 (fun hwf => ?_); simp only [List.length_cons, List.length_nil, Nat.reduceAdd, Nat.reduceSub, List.replicate, List.cons_append, List.nil_append])
  (refine sW (And.intro @h4 (@yieldA_at 2 31)) (splitI_ac hs) ?_)
  refine WA_forP (fun k => [(3, J), (6, J), (7, J), (8, J), (9, J), (19, .int .i64 k), (20, J), (21, J), (22, J), (23, J), (24, J), (25, J), (26, J), (27, J), (28, J), (29, J), (30, J), (31, J), (32, J), (33, J), (34, J), (35, J), (36, J), (37, J), (38, J), (39, J), (40, J), (41, J), (42, J)]) (fun k => [(2, ⟨Bs 16 (pre (k * 4) (pmG s) zeroF), true⟩)]) (4) ?_ ?_ ?_ <;> (try simp only [patT_cons, patT_nil, patL_cons, patL_nil, list_set_zero, list_set_succ, blk_set_zero, blk_set_succ])
  · rw [Nat.zero_mul, pre_zero]
    (exact sS @zeroF.eq_1)
  · intro q hq
    obtain ⟨hx, h8⟩ := rowOk_t (allT_get hall hq)
    have hsz : (pcF s q).size ≤ 2147483648 := Nat.le_trans pcF_le hs
    have hok := fromI_ok hsz hx
    rw [h8] at hok
    (refine sW (And.intro (hget q hq) (And.intro @h4 (And.intro @pm_over (@yieldA_at 2 31)))) @hok ?_)
    (exact gC [0, 1, 2])
  · (refine sN (@yieldA_at 2 31) ?_)
    rw [show 4 * 4 = 16 from rfl, Bs_pre]
    (exact sR0)
theorem pmI_no {s : ByteArray} (hs : s.size ≤ 2147483648) (h4 : (spA s 47).length = 4) (hall : allT (fun i => rowOk (pcF s i)) 4 = false) (h : List Blk) : AC Tryd.prog 19 [.string s] h (.tuple #[.agg (Bs 16 zeroF).toArray, .int .i64 6]) h := by
  have hget : ∀ q, q < 4 → (Ss (spA s 47))[q]? = some (.string (pcF s q)) := fun q hq => pc_get (by omega)
  obtain ⟨m, hm, hf, hall⟩ := allT_first hall
  have hm' : m < 4 := hm
  (refine AC_begin (fun _ _ => Tryd.call19 _ _) Tryd.func19 rfl Tryd.ntmps19 Tryd.results19 (fun hwf => ?_); simp only [List.length_cons, List.length_nil, Nat.reduceAdd, Nat.reduceSub, List.replicate, List.cons_append, List.nil_append])
  (refine sW (And.intro @h4 (@yieldA_at 2 31)) (splitI_ac hs) ?_)
  refine WA_forP (fun k => [(3, J), (6, J), (7, J), (8, J), (9, J), (19, .int .i64 k), (20, J), (21, J), (22, J), (23, J), (24, J), (25, J), (26, J), (27, J), (28, J), (29, J), (30, J), (31, J), (32, J), (33, J), (34, J), (35, J), (36, J), (37, J), (38, J), (39, J), (40, J), (41, J), (42, J)]) (fun k => [(2, ⟨Bs 16 (pre (k * 4) (pmG s) zeroF), true⟩)]) (m) ?_ ?_ ?_ <;> (try simp only [patT_cons, patT_nil, patL_cons, patL_nil, list_set_zero, list_set_succ, blk_set_zero, blk_set_succ])
  · rw [Nat.zero_mul, pre_zero]
    (exact sS @zeroF.eq_1)
  · intro q hq
    obtain ⟨hx, h8⟩ := rowOk_t (allT_get hall hq)
    have hsz : (pcF s q).size ≤ 2147483648 := Nat.le_trans pcF_le hs
    have hok := fromI_ok hsz hx
    rw [h8] at hok
    (refine sW (And.intro (hget q (by omega)) (And.intro @h4 (And.intro @pm_over (@yieldA_at 2 31)))) @hok ?_)
    (exact gC [0, 1, 2])
  · have hsz : (pcF s m).size ≤ 2147483648 := Nat.le_trans pcF_le hs
    cases hx : hexOk (pcF s m)
    · (refine sW (And.intro (hget m hm') (And.intro @h4 (@yieldA_at 2 31))) (fromI_no hsz hx) ?_)
      (exact sR @zeroF.eq_1)
    · have hne := rowOk_f hf hx
      (refine sW (And.intro (hget m hm') (And.intro @h4 (And.intro @hne (@yieldA_at 2 31)))) (fromI_ok hsz hx) ?_)
      (exact sR @zeroF.eq_1)

theorem pmS_ac {s : ByteArray} (hs : s.size ≤ 2147483648) (h : List Blk) : AC Tryd.prog 21 [.string s] h (.tuple #[.agg (Bs 16 (pmF s)).toArray, .int .i64 (pmC s)]) h := by
  unfold pmF pmC
  by_cases h4 : (spA s 47).length = 4
  · cases hall : allT (fun i => rowOk (pcF s i)) 4
    · have hp : pmOk s = false := by unfold pmOk; rw [hall, Bool.and_false]
      rw [hp]; exact pmS_no hs h4 hall h
    · have hp : pmOk s = true := by unfold pmOk; rw [hall, decide_eq_true h4]; rfl
      rw [hp]; exact pmS_ok hs h4 hall h
  · have hp : pmOk s = false := by unfold pmOk; rw [decide_eq_false h4]; rfl
    rw [hp]; exact pmS_bad hs h4 h

theorem pmI_ac {s : ByteArray} (hs : s.size ≤ 2147483648) (h : List Blk) : AC Tryd.prog 19 [.string s] h (.tuple #[.agg (Bs 16 (pmF s)).toArray, .int .i64 (pmC s)]) h := by
  unfold pmF pmC
  by_cases h4 : (spA s 47).length = 4
  · cases hall : allT (fun i => rowOk (pcF s i)) 4
    · have hp : pmOk s = false := by unfold pmOk; rw [hall, Bool.and_false]
      rw [hp]; exact pmI_no hs h4 hall h
    · have hp : pmOk s = true := by unfold pmOk; rw [hall, decide_eq_true h4]; rfl
      rw [hp]; exact pmI_ok hs h4 hall h
  · have hp : pmOk s = false := by unfold pmOk; rw [decide_eq_false h4]; rfl
    rw [hp]; exact pmI_bad hs h4 h

end Go.Proofs.YtalbdgkbinndlaaDoor
