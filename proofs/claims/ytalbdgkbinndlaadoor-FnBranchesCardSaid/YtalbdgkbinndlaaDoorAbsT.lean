/- The abstract machine, part T: bits and shifts of whole numbers that are natural ones. Generic: no program in sight. -/
import Derived.Test.YtalbdgkbinndlaaDoorAbsR
namespace Go.Abs
set_option linter.unusedSimpArgs false
set_option linter.unusedVariables false
set_option maxRecDepth 20000
set_option maxHeartbeats 1000000

theorem ofInt64_nat {a : Nat} (ha : a < 18446744073709551616) : (BitVec.ofInt 64 (a : Int)).toNat = a := by
  rw [BitVec.ofInt_natCast, BitVec.toNat_ofNat]; exact Nat.mod_eq_of_lt (by omega)

theorem bits_xor_N {a b : Nat} (ha : a < 9223372036854775808) (hb : b < 9223372036854775808) : bits .xor .i64 (a : Int) (b : Int) = ((a ^^^ b : Nat) : Int) := by
  have hx : a ^^^ b < 2 ^ 63 := Nat.xor_lt_two_pow (by omega) (by omega)
  show IntKind.i64.wrap ((BitVec.ofInt 64 (a : Int) ^^^ BitVec.ofInt 64 (b : Int)).toNat : Int) = _
  rw [BitVec.toNat_xor, ofInt64_nat (by omega), ofInt64_nat (by omega), wrap_i64 (by omega) (by omega)]
theorem bits_or_N {a b : Nat} (ha : a < 9223372036854775808) (hb : b < 9223372036854775808) : bits .or .i64 (a : Int) (b : Int) = ((a ||| b : Nat) : Int) := by
  have hx : a ||| b < 2 ^ 63 := Nat.or_lt_two_pow (by omega) (by omega)
  show IntKind.i64.wrap ((BitVec.ofInt 64 (a : Int) ||| BitVec.ofInt 64 (b : Int)).toNat : Int) = _
  rw [BitVec.toNat_or, ofInt64_nat (by omega), ofInt64_nat (by omega), wrap_i64 (by omega) (by omega)]
theorem bits_and_N {a b : Nat} (ha : a < 9223372036854775808) (hb : b < 9223372036854775808) : bits .and .i64 (a : Int) (b : Int) = ((a &&& b : Nat) : Int) := by
  have hx : a &&& b < 2 ^ 63 := Nat.and_lt_two_pow _ (by omega)
  show IntKind.i64.wrap ((BitVec.ofInt 64 (a : Int) &&& BitVec.ofInt 64 (b : Int)).toNat : Int) = _
  rw [BitVec.toNat_and, ofInt64_nat (by omega), ofInt64_nat (by omega), wrap_i64 (by omega) (by omega)]
attribute [go_sem] bits_xor_N bits_or_N bits_and_N
@[go_sem] theorem bits_and_L {a n : Nat} (ha : a < 9223372036854775808) (hb : OfNat.ofNat n < 9223372036854775808) : bits .and .i64 (a : Int) (no_index (OfNat.ofNat n)) = ((a &&& OfNat.ofNat n : Nat) : Int) := bits_and_N (b := OfNat.ofNat n) ha hb
@[go_sem] theorem bits_or_L {a n : Nat} (ha : a < 9223372036854775808) (hb : OfNat.ofNat n < 9223372036854775808) : bits .or .i64 (a : Int) (no_index (OfNat.ofNat n)) = ((a ||| OfNat.ofNat n : Nat) : Int) := bits_or_N (b := OfNat.ofNat n) ha hb
@[go_sem] theorem bits_xor_L {a n : Nat} (ha : a < 9223372036854775808) (hb : OfNat.ofNat n < 9223372036854775808) : bits .xor .i64 (a : Int) (no_index (OfNat.ofNat n)) = ((a ^^^ OfNat.ofNat n : Nat) : Int) := bits_xor_N (b := OfNat.ofNat n) ha hb

theorem pow_cast (i : Nat) : (2 : Int) ^ i = ((2 ^ i : Nat) : Int) := by simp
@[go_sem] theorem shr_N {a i : Nat} (hi : i ≤ 64) : (a : Int).fdiv (2 ^ (min i IntKind.i64.bits)) = ((a >>> i : Nat) : Int) := by
  rw [show IntKind.i64.bits = 64 from rfl, Nat.min_eq_left hi, pow_cast, Int.fdiv_eq_ediv_of_nonneg _ (Int.natCast_nonneg _), Nat.shiftRight_eq_div_pow]
  exact (Int.natCast_ediv a (2 ^ i)).symm
@[go_sem] theorem shl_N {a i : Nat} (hi : i ≤ 64) : (a : Int) * 2 ^ (min i IntKind.i64.bits) = ((a <<< i : Nat) : Int) := by
  rw [show IntKind.i64.bits = 64 from rfl, Nat.min_eq_left hi, pow_cast, Nat.shiftLeft_eq, Int.natCast_mul]
@[go_sem] theorem shl_L {n i : Nat} (hi : i ≤ 64) : (no_index (OfNat.ofNat n : Int)) * 2 ^ (min i IntKind.i64.bits) = ((OfNat.ofNat n <<< i : Nat) : Int) := shl_N (a := OfNat.ofNat n) hi
@[go_sem] theorem tmod_N (a n : Nat) : Int.tmod (a : Int) (no_index (OfNat.ofNat n)) = ((a % OfNat.ofNat n : Nat) : Int) := nr rfl
@[go_sem] theorem tdiv_N (a n : Nat) : Int.tdiv (a : Int) (no_index (OfNat.ofNat n)) = ((a / OfNat.ofNat n : Nat) : Int) := nr rfl
@[go_sem] theorem tmod_NN (a n : Nat) : Int.tmod (a : Int) (n : Int) = ((a % n : Nat) : Int) := nr rfl
@[go_sem] theorem tdiv_NN (a n : Nat) : Int.tdiv (a : Int) (n : Int) = ((a / n : Nat) : Int) := nr rfl

@[go_sem] theorem beq_N (a b : Nat) : (((a : Nat) : Int) == (b : Int)) = (a == b) := nr (by rw [Bool.eq_iff_iff]; simp; omega)
@[go_sem] theorem beq_L (a n : Nat) : (((a : Nat) : Int) == no_index (OfNat.ofNat n)) = (a == OfNat.ofNat n) := beq_N a n
@[go_sem] theorem bne_N (a b : Nat) : (((a : Nat) : Int) != (b : Int)) = (a != b) := nr (by unfold bne; rw [beq_N])
@[go_sem] theorem bne_L (a n : Nat) : (((a : Nat) : Int) != no_index (OfNat.ofNat n)) = (a != OfNat.ofNat n) := bne_N a n
@[go_sem] theorem lt_N (a b : Nat) : decide (((a : Nat) : Int) < (b : Int)) = decide (a < b) := nr (by rw [Bool.eq_iff_iff]; simp)
@[go_sem] theorem lt_NL (a n : Nat) : decide (((a : Nat) : Int) < no_index (OfNat.ofNat n)) = decide (a < OfNat.ofNat n) := lt_N a n
@[go_sem] theorem lt_LN (a n : Nat) : decide ((no_index (OfNat.ofNat n) : Int) < ((a : Nat) : Int)) = decide (OfNat.ofNat n < a) := lt_N n a
@[go_sem] theorem le_N (a b : Nat) : decide (((a : Nat) : Int) ≤ (b : Int)) = decide (a ≤ b) := nr (by rw [Bool.eq_iff_iff]; simp)
@[go_sem] theorem le_NL (a n : Nat) : decide (((a : Nat) : Int) ≤ no_index (OfNat.ofNat n)) = decide (a ≤ OfNat.ofNat n) := le_N a n
@[go_sem] theorem le_LN (a n : Nat) : decide ((no_index (OfNat.ofNat n) : Int) ≤ ((a : Nat) : Int)) = decide (OfNat.ofNat n ≤ a) := le_N n a
@[go_sem] theorem gt_any (a b : Int) : decide (a > b) = decide (b < a) := nr rfl
@[go_sem] theorem ge_any (a b : Int) : decide (a ≥ b) = decide (b ≤ a) := nr rfl

theorem bit_N (a i : Nat) : (a >>> i &&& 1 == 1) = a.testBit i := by
  simp only [Nat.testBit, Nat.and_one_is_mod, Nat.one_and_eq_mod_two]
  rcases Nat.mod_two_eq_zero_or_one (a >>> i) with h | h <;> rw [h] <;> rfl
theorem bit_M (a i : Nat) : (a >>> i % 2 == 1) = a.testBit i := by
  rw [← bit_N, Nat.and_one_is_mod]
theorem half_shift (a i : Nat) : a >>> i / 2 = a >>> (i + 1) := by
  rw [Nat.shiftRight_succ]
attribute [go_sem] bit_N bit_M half_shift

@[go_sem] theorem toNat_cast' (x : UInt8) : ((x.toNat : Nat) : Int).toNat = x.toNat := nr rfl
theorem u8_ofNat_toNat {n : Nat} (h : n < 256) : (UInt8.ofNat n).toNat = n := by simp; omega
@[go_sem] theorem toB_N (n : Nat) : toB ((n : Nat) : Int) = UInt8.ofNat n := toB_nat n

section
variable {P : Program} {T : TypeId}
/-- A byte shifted to the right. -/
@[go_sem high] theorem abin_shr_B (x : UInt8) (k : IntKind) (i : Nat) : abin P .shr T (B x) (.int k (i : Int)) = some (B (UInt8.ofNat (x.toNat >>> i))) := by
  show (if (i : Int) < 0 then none else some (Value.int .u8 ((x.toNat : Int).fdiv (2 ^ (min (i : Int).toNat IntKind.u8.bits))))) = _
  rw [if_neg (by omega)]
  congr 1
  apply B_eq
  have hlt := u8_lt x
  rw [show ((i : Int).toNat) = i from rfl, show IntKind.u8.bits = 8 from rfl, pow_cast, Int.fdiv_eq_ediv_of_nonneg _ (Int.natCast_nonneg _), ← Int.natCast_ediv]
  congr 1
  rw [u8_ofNat_toNat (by rw [Nat.shiftRight_eq_div_pow]; exact Nat.lt_of_le_of_lt (Nat.div_le_self ..) hlt), Nat.shiftRight_eq_div_pow]
  rcases Nat.le_total i 8 with h | h
  · rw [Nat.min_eq_left h]
  · rw [Nat.min_eq_right h, Nat.div_eq_of_lt (by omega), Nat.div_eq_of_lt]
    exact Nat.lt_of_lt_of_le hlt (show 2 ^ 8 ≤ 2 ^ i from Nat.pow_le_pow_right (by omega) h)
end
theorem bit_B (x : UInt8) (i : Nat) : (UInt8.ofNat (x.toNat >>> i) &&& 1 == 1) = x.toNat.testBit i := by
  rw [← bit_N, Bool.eq_iff_iff]
  have hlt := u8_lt x
  have h1 : x.toNat >>> i < 256 := by rw [Nat.shiftRight_eq_div_pow]; exact Nat.lt_of_le_of_lt (Nat.div_le_self ..) hlt
  simp only [beq_iff_eq, ← UInt8.toNat_inj, UInt8.toNat_and, u8_ofNat_toNat h1]
  rfl
attribute [go_sem] bit_B
theorem Fits_nat {x : Int} (h : 0 ≤ x) : ∃ n : Nat, x = n := ⟨x.toNat, by omega⟩

@[go_sem] theorem cast_sub {a b : Nat} (h : b ≤ a) : (a : Int) - (b : Int) = ((a - b : Nat) : Int) := (Int.ofNat_sub h).symm
@[go_sem] theorem cast_sub_lit {a n : Nat} (h : OfNat.ofNat n ≤ a) : (a : Int) - (no_index (OfNat.ofNat n)) = ((a - OfNat.ofNat n : Nat) : Int) := cast_sub h
@[go_sem] theorem lit_sub_cast {a n : Nat} (h : a ≤ OfNat.ofNat n) : (no_index (OfNat.ofNat n : Int)) - (a : Int) = ((OfNat.ofNat n - a : Nat) : Int) := cast_sub h
@[go_sem] theorem wrap_u64 {n : Int} (h0 : 0 ≤ n) (h1 : n ≤ 18446744073709551615) : IntKind.u64.wrap n = n := by
  show n % 2 ^ 64 = n
  omega

/-- A loop whose state after k rounds is told by a function, and in which something holds after k rounds. -/
theorem WA_forJ {P : Program} {Q : Exit → AS → Prop} {n0 : Nat} {s : AS} {c : Code} (J : Nat → Prop) (S : Nat → AS) (n : Nat) (h0 : J 0) (hs : Drop n0 s (S 0))
    (step : ∀ k, k < n → J k → WA P n0 c (Then (fun s' => J (k + 1) ∧ Drop n0 s' (S (k + 1))) Q) (S k))
    (done : J n → WA P n0 c (Then (fun _ => False) Q) (S n)) : WA P n0 (.loop c) Q s := by
  refine WA_pre hs (WA_loop (fun m s => m ≤ n ∧ J (n - m) ∧ s = S (n - m)) (n := n) ⟨Nat.le_refl _, by simpa using h0, by simp⟩ fun m s ⟨hm, hj, he⟩ => ?_)
  subst he
  by_cases hm0 : m = 0
  · subst hm0
    exact WA_mono (done (by simpa using hj)) fun e s' h => by cases e <;> first | exact h.elim | exact h
  · refine WA_mono (step (n - m) (by omega) hj) fun e s' h => ?_
    cases e with
    | normal =>
      have : n - (m - 1) = n - m + 1 := by omega
      exact ⟨m - 1, S (n - (m - 1)), by omega, ⟨by omega, by rw [this]; exact h.1, rfl⟩, by rw [this]; exact h.2⟩
    | _ => exact h
theorem WA_forPJ {P : Program} {Q : Exit → AS → Prop} {n0 : Nat} {c : Code} {t : List Value} {H L : List Blk} (J : Nat → Prop) (ps : Nat → List (Nat × Value)) (bs : Nat → List (Nat × Blk)) (n : Nat) (h0 : J 0)
    (hs : Drop n0 ⟨t, H ++ L⟩ ⟨patT t (ps 0), H ++ patL L (bs 0)⟩)
    (step : ∀ k, k < n → J k → WA P n0 c (Then (fun s' => J (k + 1) ∧ Drop n0 s' ⟨patT t (ps (k + 1)), H ++ patL L (bs (k + 1))⟩) Q) ⟨patT t (ps k), H ++ patL L (bs k)⟩)
    (done : J n → WA P n0 c (Then (fun _ => False) Q) ⟨patT t (ps n), H ++ patL L (bs n)⟩) : WA P n0 (.loop c) Q ⟨t, H ++ L⟩ :=
  WA_forJ (s := ⟨t, H ++ L⟩) J (fun k => ⟨patT t (ps k), H ++ patL L (bs k)⟩) n h0 hs step done
theorem WA_forHJ {P : Program} {Q : Exit → AS → Prop} {n0 : Nat} {c : Code} {t : List Value} {h : List Blk} (J : Nat → Prop) (ps : Nat → List (Nat × Value)) (hp : Nat → List Blk) (n : Nat) (h0 : J 0)
    (hs : Drop n0 ⟨t, h⟩ ⟨patT t (ps 0), hp 0⟩)
    (step : ∀ k, k < n → J k → WA P n0 c (Then (fun s' => J (k + 1) ∧ Drop n0 s' ⟨patT t (ps (k + 1)), hp (k + 1)⟩) Q) ⟨patT t (ps k), hp k⟩)
    (done : J n → WA P n0 c (Then (fun _ => False) Q) ⟨patT t (ps n), hp n⟩) : WA P n0 (.loop c) Q ⟨t, h⟩ :=
  WA_forJ (s := ⟨t, h⟩) J (fun k => ⟨patT t (ps k), hp k⟩) n h0 hs step done
@[go_sem] theorem shr_64 {a i : Nat} (hi : i ≤ 64) : (a : Int).fdiv (2 ^ (min i 64)) = ((a >>> i : Nat) : Int) := shr_N hi
@[go_sem] theorem shl_64 {a i : Nat} (hi : i ≤ 64) : (a : Int) * 2 ^ (min i 64) = ((a <<< i : Nat) : Int) := shl_N hi
@[go_sem] theorem shl_L64 {n i : Nat} (hi : i ≤ 64) : (no_index (OfNat.ofNat n : Int)) * 2 ^ (min i 64) = ((OfNat.ofNat n <<< i : Nat) : Int) := shl_N (a := OfNat.ofNat n) hi
theorem wrap_N {n : Nat} (h : n < 9223372036854775808) : IntKind.i64.wrap (n : Int) = n := wrap_i64 (by omega) (by omega)
end Go.Abs
