/- Which boxes and places are permutations, which matrices have inverses: networks and ciphers. -/
import Derived.Test.YtdblbbedfoddiaaDoorW11
import Derived.Test.YtdblbbedfoddiaaDoorW16
import Derived.Test.YtdblbbedfoddiaaDoorW2
import Derived.Test.YtdblbbedfoddiaaDoorF4
namespace Go.Proofs.YtdblbbedfoddiaaDoor
set_option linter.unusedSimpArgs false
set_option linter.unusedVariables false
set_option maxRecDepth 20000
set_option maxHeartbeats 1000000
open Go.Abs

/-- A row of truths. -/
abbrev Ts (n : Nat) (f : Nat → Bool) : List Value := Vs n fun i => .bool (f i)
theorem bft : (false == true) = false := rfl
theorem upd_bool (f : Nat → Bool) (i : Nat) (x : Bool) : upd (fun i => Value.bool (f i)) i (.bool x) = fun j => Value.bool (upd f i x j) := by
  funext j; unfold upd; split <;> rfl
/-- Which values the first k places have. -/
def metB (f : Nat → UInt8) (k : Nat) : Nat → Bool := fun y => (List.range k).any fun i => (f i).toNat == y
theorem metB_zero (f : Nat → UInt8) : metB f 0 = fun _ => false := rfl
theorem metB_set (f : Nat → UInt8) (k : Nat) : upd (metB f k) (f k).toNat true = metB f (k + 1) := by
  funext y
  unfold upd metB
  rw [List.range_succ, List.any_append]
  by_cases h : y = (f k).toNat
  · subst h; simp
  · rw [if_neg h]
    have : ((f k).toNat == y) = false := by simpa using fun e => h e.symm
    simp [this]
theorem metB_at (f : Nat → UInt8) (k : Nat) : metB f k (f k).toNat = twiceAt f k k := by
  unfold metB twiceAt
  congr 1
  funext i
  rw [Bool.eq_iff_iff]
  simp only [beq_iff_eq]
  constructor
  · intro h; exact (UInt8.toNat_inj.1 h).symm
  · intro h; rw [h]
theorem twice_iff (f : Nat → UInt8) (n : Nat) : twiceP f n = false ↔ ∀ i j, i < n → j < n → f i = f j → i = j := by
  have key : twiceP f n = true ↔ ∃ i j, i < n ∧ j < i ∧ f i = f j := by
    unfold twiceP twiceAt
    simp only [List.any_eq_true, List.mem_range, beq_iff_eq]
    constructor
    · rintro ⟨i, hi, j, hj, e⟩; exact ⟨i, j, hi, hj, e⟩
    · rintro ⟨i, j, hi, hj, e⟩; exact ⟨i, hi, j, hj, e⟩
  constructor
  · intro h i j hi hj e
    rcases Nat.lt_trichotomy i j with h1 | h1 | h1
    · exact absurd (key.2 ⟨j, i, hj, h1, e.symm⟩) (by rw [h]; decide)
    · exact h1
    · exact absurd (key.2 ⟨i, j, hi, h1, e⟩) (by rw [h]; decide)
  · intro h
    cases ht : twiceP f n with
    | false => rfl
    | true => obtain ⟨i, j, hi, hj, e⟩ := key.1 ht; have := h i j hi (by omega) e; omega
/-- Whether a box is a permutation. -/
def boxOk (f : Nat → UInt8) : Bool := !twiceP f 256
theorem seen_all (f : Nat → UInt8) : (List.range 256).all (metB f 256) = boxOk f := by
  unfold boxOk
  rw [Bool.eq_iff_iff, Bool.not_eq_true', twice_iff]
  have hr : ∀ i, i < 256 → (f i).toNat < 256 := fun i _ => u8_lt (f i)
  constructor
  · intro h i j hi hj e
    refine surj_inj 256 (fun i => (f i).toNat) hr (fun y hy => ?_) i j hi hj (by rw [e])
    have := List.all_eq_true.1 h y (List.mem_range.2 hy)
    obtain ⟨x, hx, hx2⟩ := List.any_eq_true.1 this
    exact ⟨x, List.mem_range.1 hx, by simpa using hx2⟩
  · intro h
    rw [List.all_eq_true]
    intro y hy
    obtain ⟨i, hi, e⟩ := inj_surj 256 (fun i => (f i).toNat) hr (fun i j hi hj e => h i j hi hj (UInt8.toNat_inj.1 e)) y (List.mem_range.1 hy)
    exact List.any_eq_true.2 ⟨i, List.mem_range.2 hi, by simpa using e⟩

/-- How many places ahead of the first falsehood. -/
def allT (f : Nat → Bool) (n : Nat) : Bool := (List.range n).all f
theorem allT_s {f : Nat → Bool} {k : Nat} (h : allT f k = true) (h2 : f k = true) : allT f (k + 1) = true := by
  unfold allT at *; rw [List.range_succ, List.all_append, h]; simpa using h2
theorem allT_f {f : Nat → Bool} {k n : Nat} (hk : k < n) (h : f k = false) : allT f n = false := by
  cases ha : allT f n with
  | false => rfl
  | true => have := List.all_eq_true.1 ha k (List.mem_range.2 hk); rw [h] at this; cases this

/-- Whether 16 bytes are a permutation of the places. -/
def plRange (f : Nat → UInt8) (k : Nat) : Bool := (List.range k).all fun i => decide ((f i).toNat < 16)
def plOk (f : Nat → UInt8) : Bool := plRange f 16 && !twiceP f 16
theorem plRange_s {f : Nat → UInt8} {k : Nat} (h : plRange f k = true) (h2 : (f k).toNat < 16) : plRange f (k + 1) = true := by
  unfold plRange at *; rw [List.range_succ, List.all_append, h]; simpa using h2
theorem plRange_f {f : Nat → UInt8} {k n : Nat} (hk : k < n) (h : 16 ≤ (f k).toNat) : plRange f n = false := by
  cases ha : plRange f n with
  | false => rfl
  | true => have := List.all_eq_true.1 ha k (List.mem_range.2 hk); simp at this; omega
theorem plOk_lt {f : Nat → UInt8} (h : plOk f = true) {i : Nat} (hi : i < 16) : (f i).toNat < 16 := by
  unfold plOk at h
  rw [Bool.and_eq_true] at h
  have := List.all_eq_true.1 h.1 i (List.mem_range.2 hi)
  simpa using this

end Go.Proofs.YtdblbbedfoddiaaDoor
