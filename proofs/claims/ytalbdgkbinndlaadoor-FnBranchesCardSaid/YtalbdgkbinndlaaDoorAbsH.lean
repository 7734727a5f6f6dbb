/- The abstract machine, part H: arithmetic in a walk. Generic: no program in sight. -/
import Derived.Test.YtalbdgkbinndlaaDoorAbsG
namespace Go.Abs
set_option linter.unusedSimpArgs false
set_option linter.unusedVariables false
set_option maxRecDepth 20000
set_option maxHeartbeats 1000000

/-- A number made into a byte. -/
def toB (n : Int) : UInt8 := UInt8.ofNat (n % 256).toNat

theorem toB_nat (n : Nat) : toB (n : Int) = UInt8.ofNat n := by
  unfold toB
  have : ((n : Int) % 256).toNat = n % 256 := by omega
  rw [this]
  apply UInt8.toNat.inj
  simp

@[go_sem] theorem toB_byte (x : UInt8) : toB (x.toNat : Int) = x := by rw [toB_nat]; simp

theorem wrap_u8 (n : Int) : IntKind.u8.wrap n = ((toB n).toNat : Int) := by
  unfold toB IntKind.wrap
  simp [IntKind.bits, IntKind.signed]
  omega

/-- A byte that is worth the number. -/
theorem B_eq (n : Int) (x : UInt8) (h : n = x.toNat) : Value.int .u8 n = B x := by rw [h]; rfl
@[go_sem] theorem wrap_B (n : Int) : Value.int .u8 (IntKind.u8.wrap n) = B (toB n) := by rw [wrap_u8]; rfl
@[go_sem] theorem lit_B (n : Nat) (h : n < 256) : Value.int .u8 (no_index (OfNat.ofNat n)) = B (OfNat.ofNat n) := by
  unfold B
  congr 1
  show ((n : Nat) : Int) = ((UInt8.ofNat n).toNat : Int)
  simp
  omega

@[go_sem] theorem ev_B (t : List Value) (x : UInt8) : ev t (.const (B x)) = B x := nr rfl

theorem u8_lt (x : UInt8) : x.toNat < 256 := x.toNat_lt

section
variable {P : Program} {T : TypeId}

theorem bits_xor_B (x y : UInt8) : bits .xor .u8 (x.toNat : Int) (y.toNat : Int) = ((x ^^^ y).toNat : Int) := by
  unfold bits
  simp only [wrap_u8]
  congr 1
  rw [toB_nat]
  congr 1
  apply UInt8.toNat.inj
  simp [IntKind.bits]
  exact BitVec.toNat_xor ..
theorem bits_and_B (x y : UInt8) : bits .and .u8 (x.toNat : Int) (y.toNat : Int) = ((x &&& y).toNat : Int) := by
  unfold bits
  simp only [wrap_u8]
  congr 1
  rw [toB_nat]
  congr 1
  apply UInt8.toNat.inj
  simp [IntKind.bits]
  exact BitVec.toNat_and ..
theorem bits_or_B (x y : UInt8) : bits .or .u8 (x.toNat : Int) (y.toNat : Int) = ((x ||| y).toNat : Int) := by
  unfold bits
  simp only [wrap_u8]
  congr 1
  rw [toB_nat]
  congr 1
  apply UInt8.toNat.inj
  simp [IntKind.bits]
  exact BitVec.toNat_or ..

@[go_sem] theorem abin_xor_B (x y : UInt8) : abin P .xor T (B x) (B y) = some (B (x ^^^ y)) := by
  show (if IntKind.u8 = IntKind.u8 then ibin .xor .u8 x.toNat y.toNat else none) = _
  rw [if_pos rfl]; unfold ibin; simp only [bits_xor_B]; rfl
@[go_sem] theorem abin_and_B (x y : UInt8) : abin P .and T (B x) (B y) = some (B (x &&& y)) := by
  show (if IntKind.u8 = IntKind.u8 then ibin .and .u8 x.toNat y.toNat else none) = _
  rw [if_pos rfl]; unfold ibin; simp only [bits_and_B]; rfl
@[go_sem] theorem abin_or_B (x y : UInt8) : abin P .or T (B x) (B y) = some (B (x ||| y)) := by
  show (if IntKind.u8 = IntKind.u8 then ibin .or .u8 x.toNat y.toNat else none) = _
  rw [if_pos rfl]; unfold ibin; simp only [bits_or_B]; rfl
@[go_sem] theorem abin_add_B (x y : UInt8) : abin P .add T (B x) (B y) = some (B (x + y)) := by
  show (if IntKind.u8 = IntKind.u8 then ibin .add .u8 x.toNat y.toNat else none) = _
  rw [if_pos rfl]; unfold ibin; simp only [wrap_B]
  congr 2
  rw [← Int.natCast_add, toB_nat]
  apply UInt8.toNat.inj; simp
@[go_sem] theorem abin_sub_B (x y : UInt8) : abin P .sub T (B x) (B y) = some (B (x - y)) := by
  show (if IntKind.u8 = IntKind.u8 then ibin .sub .u8 x.toNat y.toNat else none) = _
  rw [if_pos rfl]; unfold ibin; simp only [wrap_B]
  congr 2
  apply UInt8.toNat.inj
  unfold toB
  have := u8_lt x; have := u8_lt y
  simp [UInt8.toNat_sub]; omega
@[go_sem] theorem abin_mul_B (x y : UInt8) : abin P .mul T (B x) (B y) = some (B (x * y)) := by
  show (if IntKind.u8 = IntKind.u8 then ibin .mul .u8 x.toNat y.toNat else none) = _
  rw [if_pos rfl]; unfold ibin; simp only [wrap_B]
  congr 2
  rw [← Int.natCast_mul, toB_nat]
  apply UInt8.toNat.inj; simp
theorem toNat_inj' (x y : UInt8) : ((x.toNat : Int) == (y.toNat : Int)) = (x == y) := by
  rw [Bool.eq_iff_iff]; simp only [beq_iff_eq]
  exact ⟨fun h => UInt8.toNat.inj (by omega), fun h => by rw [h]⟩
@[go_sem] theorem abin_eql_B (x y : UInt8) : abin P .eql T (B x) (B y) = some (.bool (x == y)) := by
  show some (Value.bool ((x.toNat : Int) == (y.toNat : Int))) = _
  rw [toNat_inj']
@[go_sem] theorem abin_neq_B (x y : UInt8) : abin P .neq T (B x) (B y) = some (.bool (x != y)) := by
  show some (Value.bool ((x.toNat : Int) != (y.toNat : Int))) = _
  unfold bne; rw [toNat_inj']
@[go_sem] theorem abin_lss_B (x y : UInt8) : abin P .lss T (B x) (B y) = some (.bool (decide (x < y))) := by
  show some (Value.bool (decide ((x.toNat : Int) < (y.toNat : Int)))) = _
  congr 2; rw [Bool.eq_iff_iff]; simp [UInt8.lt_iff_toNat_lt]
@[go_sem] theorem abin_leq_B (x y : UInt8) : abin P .leq T (B x) (B y) = some (.bool (decide (x ≤ y))) := by
  show some (Value.bool (decide ((x.toNat : Int) ≤ (y.toNat : Int)))) = _
  congr 2; rw [Bool.eq_iff_iff]; simp [UInt8.le_iff_toNat_le]
@[go_sem] theorem abin_gtr_B (x y : UInt8) : abin P .gtr T (B x) (B y) = some (.bool (decide (y < x))) := by
  show some (Value.bool (decide ((x.toNat : Int) > (y.toNat : Int)))) = _
  congr 2; rw [Bool.eq_iff_iff]; simp [UInt8.lt_iff_toNat_lt]
@[go_sem] theorem abin_geq_B (x y : UInt8) : abin P .geq T (B x) (B y) = some (.bool (decide (y ≤ x))) := by
  show some (Value.bool (decide ((x.toNat : Int) ≥ (y.toNat : Int)))) = _
  congr 2; rw [Bool.eq_iff_iff]; simp [UInt8.le_iff_toNat_le]
@[go_sem] theorem aun_xor_B (x : UInt8) : aun .xor (B x) = some (B (~~~x)) := by
  show some (Value.int .u8 (bits .xor .u8 (if IntKind.u8.signed then -1 else IntKind.u8.max) (x.toNat : Int))) = _
  have h : (if IntKind.u8.signed then (-1 : Int) else IntKind.u8.max) = ((255 : UInt8).toNat : Int) := by decide
  rw [h, bits_xor_B]
  congr 2

/-! #### Integers -/
@[go_sem] theorem abin_add_I (k : IntKind) (x y : Int) : abin P .add T (.int k x) (.int k y) = some (.int k (k.wrap (x + y))) := by
  show (if k = k then ibin .add k x y else none) = _; rw [if_pos rfl]; rfl
@[go_sem] theorem abin_sub_I (k : IntKind) (x y : Int) : abin P .sub T (.int k x) (.int k y) = some (.int k (k.wrap (x - y))) := by
  show (if k = k then ibin .sub k x y else none) = _; rw [if_pos rfl]; rfl
@[go_sem] theorem abin_mul_I (k : IntKind) (x y : Int) : abin P .mul T (.int k x) (.int k y) = some (.int k (k.wrap (x * y))) := by
  show (if k = k then ibin .mul k x y else none) = _; rw [if_pos rfl]; rfl
@[go_sem] theorem abin_quo_I (k : IntKind) (x y : Int) (h : y ≠ 0) : abin P .quo T (.int k x) (.int k y) = some (.int k (k.wrap (x.tdiv y))) := by
  show (if k = k then ibin .quo k x y else none) = _; rw [if_pos rfl]; unfold ibin; simp only; rw [if_neg h]
@[go_sem] theorem abin_rem_I (k : IntKind) (x y : Int) (h : y ≠ 0) : abin P .rem T (.int k x) (.int k y) = some (.int k (x.tmod y)) := by
  show (if k = k then ibin .rem k x y else none) = _; rw [if_pos rfl]; unfold ibin; simp only; rw [if_neg h]
@[go_sem] theorem abin_and_I (k : IntKind) (x y : Int) : abin P .and T (.int k x) (.int k y) = some (.int k (bits .and k x y)) := by
  show (if k = k then ibin .and k x y else none) = _; rw [if_pos rfl]; rfl
@[go_sem] theorem abin_or_I (k : IntKind) (x y : Int) : abin P .or T (.int k x) (.int k y) = some (.int k (bits .or k x y)) := by
  show (if k = k then ibin .or k x y else none) = _; rw [if_pos rfl]; rfl
@[go_sem] theorem abin_xor_I (k : IntKind) (x y : Int) : abin P .xor T (.int k x) (.int k y) = some (.int k (bits .xor k x y)) := by
  show (if k = k then ibin .xor k x y else none) = _; rw [if_pos rfl]; rfl
@[go_sem] theorem abin_andNot_I (k : IntKind) (x y : Int) : abin P .andNot T (.int k x) (.int k y) = some (.int k (bits .andNot k x y)) := by
  show (if k = k then ibin .andNot k x y else none) = _; rw [if_pos rfl]; rfl
@[go_sem] theorem abin_eql_I (k : IntKind) (x y : Int) : abin P .eql T (.int k x) (.int k y) = some (.bool (x == y)) := by
  show (if k = k then ibin .eql k x y else none) = _; rw [if_pos rfl]; rfl
@[go_sem] theorem abin_neq_I (k : IntKind) (x y : Int) : abin P .neq T (.int k x) (.int k y) = some (.bool (x != y)) := by
  show (if k = k then ibin .neq k x y else none) = _; rw [if_pos rfl]; rfl
@[go_sem] theorem abin_lss_I (k : IntKind) (x y : Int) : abin P .lss T (.int k x) (.int k y) = some (.bool (decide (x < y))) := by
  show (if k = k then ibin .lss k x y else none) = _; rw [if_pos rfl]; rfl
@[go_sem] theorem abin_leq_I (k : IntKind) (x y : Int) : abin P .leq T (.int k x) (.int k y) = some (.bool (decide (x ≤ y))) := by
  show (if k = k then ibin .leq k x y else none) = _; rw [if_pos rfl]; rfl
@[go_sem] theorem abin_gtr_I (k : IntKind) (x y : Int) : abin P .gtr T (.int k x) (.int k y) = some (.bool (decide (y < x))) := by
  show (if k = k then ibin .gtr k x y else none) = _; rw [if_pos rfl]; rfl
@[go_sem] theorem abin_geq_I (k : IntKind) (x y : Int) : abin P .geq T (.int k x) (.int k y) = some (.bool (decide (y ≤ x))) := by
  show (if k = k then ibin .geq k x y else none) = _; rw [if_pos rfl]; rfl
@[go_sem] theorem abin_shl_I (k k' : IntKind) (x y : Int) (h : 0 ≤ y) : abin P .shl T (.int k x) (.int k' y) = some (.int k (k.wrap (x * 2 ^ (min y.toNat k.bits)))) := by
  show (if y < 0 then none else _) = _; rw [if_neg (by omega)]
@[go_sem] theorem abin_shr_I (k k' : IntKind) (x y : Int) (h : 0 ≤ y) : abin P .shr T (.int k x) (.int k' y) = some (.int k (x.fdiv (2 ^ (min y.toNat k.bits)))) := by
  show (if y < 0 then none else _) = _; rw [if_neg (by omega)]
@[go_sem] theorem aun_neg_I (k : IntKind) (n : Int) : aun .neg (.int k n) = some (.int k (k.wrap (0 - n))) := nr rfl
@[go_sem] theorem aun_not (b : Bool) : aun .not (.bool b) = some (.bool !b) := nr rfl

@[go_sem] theorem wrap_i64 {n : Int} (h0 : -9223372036854775808 ≤ n) (h1 : n ≤ 9223372036854775807) : IntKind.i64.wrap n = n := IntWalk.i64_in n ⟨h0, h1⟩

@[go_sem] theorem aidx_nat {i len : Nat} (h : i < len) : aidx (i : Int) len = some i := by
  unfold aidx; rw [if_pos ⟨by omega, by omega⟩]; rfl
@[go_sem] theorem aidx_byte {x : UInt8} : aidx (x.toNat : Int) 256 = some x.toNat := aidx_nat (u8_lt x)
@[go_sem low] theorem aidx_gen {n : Int} {len : Nat} (h0 : 0 ≤ n) (h1 : n < len) : aidx n len = some n.toNat := by
  unfold aidx; rw [if_pos ⟨h0, h1⟩]
@[go_sem] theorem aidx_B {x : UInt8} {len : Nat} (h : x.toNat < len) : aidx (x.toNat : Int) len = some x.toNat := aidx_nat h

@[go_sem] theorem intA_int (k : IntKind) (n : Int) : intA (.int k n) = some n := nr rfl
@[go_sem] theorem intA_B (x : UInt8) : intA (B x) = some (x.toNat : Int) := nr rfl
@[go_sem] theorem boolA_bool (b : Bool) : boolA (.bool b) = some b := nr rfl
@[go_sem] theorem boolG_bool (b : Bool) : boolG (.bool b) = some (some b) := nr rfl
@[go_sem] theorem boolG_u : boolG U = some none := nr rfl
@[go_sem] theorem pickA_bool (b : Bool) (x y : Value) : pickA (.bool b) x y = some (if b then x else y) := nr rfl
@[go_sem] theorem ptrA_pt (b o : Nat) : ptrA (pt b o) = some ⟨b, o, none⟩ := nr rfl
@[go_sem] theorem extractA_tuple (l : List Value) (i : Nat) : extractA (.tuple l.toArray) i = l[i]? := nr rfl
@[go_sem] theorem cellsA_agg (l : List Value) : cellsA (.agg l.toArray) = some l := nr rfl
@[go_sem] theorem cellsA_int (k : IntKind) (n : Int) : cellsA (.int k n) = some [.int k n] := nr rfl
@[go_sem] theorem cellsA_B (x : UInt8) : cellsA (B x) = some [B x] := nr rfl
@[go_sem] theorem cellsA_bool (b : Bool) : cellsA (.bool b) = some [.bool b] := nr rfl
@[go_sem] theorem cellsA_string (b : ByteArray) : cellsA (.string b) = some [.string b] := nr rfl
@[go_sem] theorem cellsA_pt (b o : Nat) : cellsA (pt b o) = some [pt b o] := nr rfl
@[go_sem] theorem cellsA_sl (b o n es : Nat) : cellsA (sl b o n es) = some [sl b o n es] := nr rfl
@[go_sem] theorem amin_I (k k' : IntKind) (x y : Int) : amin (.int k x) (.int k' y) = some (.int k (if y < x then y else x)) := nr rfl
@[go_sem] theorem amax_I (k k' : IntKind) (x y : Int) : amax (.int k x) (.int k' y) = some (.int k (if y > x then y else x)) := nr rfl

end
end Go.Abs
