/- The abstract machine, part X: quotients, remainders and shifts of bytes. Generic: no program in sight. -/
import Derived.Test.YtalbdgkbinndlaaDoorAbsV
import Derived.Test.YtalbdgkbinndlaaDoorAbsT
namespace Go.Abs
set_option linter.unusedSimpArgs false
set_option linter.unusedVariables false
set_option maxRecDepth 20000
set_option maxHeartbeats 1000000

section
variable {P : Program} {T : TypeId}
theorem u8_div_nat (x y : UInt8) : UInt8.ofNat (x.toNat / y.toNat) = x / y := by
  apply UInt8.toNat.inj
  rw [UInt8.toNat_div, UInt8.toNat_ofNat']
  exact Nat.mod_eq_of_lt (Nat.lt_of_le_of_lt (Nat.div_le_self _ _) x.toNat_lt)
@[go_sem] theorem abin_quo_B (x y : UInt8) (h : y ≠ 0) : abin P .quo T (B x) (B y) = some (B (x / y)) := by
  have hy : (y.toNat : Int) ≠ 0 := fun e => h (UInt8.toNat.inj (by simpa using e))
  have := abin_quo_I (P := P) (T := T) .u8 (x.toNat : Int) (y.toNat : Int) hy
  show abin P .quo T (.int .u8 (x.toNat : Int)) (.int .u8 (y.toNat : Int)) = _
  rw [this, wrap_B]
  congr 2
  rw [show (x.toNat : Int).tdiv (y.toNat : Int) = ((x.toNat / y.toNat : Nat) : Int) from rfl, toB_nat, u8_div_nat]
@[go_sem] theorem abin_rem_B (x y : UInt8) (h : y ≠ 0) : abin P .rem T (B x) (B y) = some (B (x % y)) := by
  have hy : (y.toNat : Int) ≠ 0 := fun e => h (UInt8.toNat.inj (by simpa using e))
  have := abin_rem_I (P := P) (T := T) .u8 (x.toNat : Int) (y.toNat : Int) hy
  show abin P .rem T (.int .u8 (x.toNat : Int)) (.int .u8 (y.toNat : Int)) = _
  rw [this, show (x.toNat : Int).tmod (y.toNat : Int) = ((x.toNat % y.toNat : Nat) : Int) from rfl]
  unfold B
  rw [UInt8.toNat_mod]
theorem abin_shl_B1 (k : IntKind) {i : Nat} (h : i ≤ 8) : abin P .shl T (B 1) (.int k (i : Int)) = some (B (UInt8.ofNat (2 ^ i))) := by
  have := abin_shl_I (P := P) (T := T) .u8 k 1 (i : Int) (by omega)
  show abin P .shl T (.int .u8 ((1 : UInt8).toNat : Int)) (.int k (i : Int)) = _
  rw [show ((1 : UInt8).toNat : Int) = 1 from rfl, this, wrap_B, Int.toNat_natCast, show min i (IntKind.u8.bits) = i from Nat.min_eq_left h, Int.one_mul]
  rw [show ((2 : Int) ^ i) = ((2 ^ i : Nat) : Int) by rw [Int.natCast_pow]; rfl, toB_nat]
end

section
variable {P : Program} {ops : Array Oper} {K : AS → Prop} {s : AS} {d : Option Tmp} {ty : TypeId} {pos : String} {af : Array Edge} {g : Option (Nat × Bool)} {hS : List Blk}
@[go_sem] theorem opQ_call6 {f : FuncId} {ts : Array TypeId} {a b c e e1 e2 : Operand} : opQ P ⟨d, .call ⟨.value (.func f), #[a, b, c, e, e1, e2], ts⟩, ty, pos, af, g⟩ s K = callQ P f [ev s.t a, ev s.t b, ev s.t c, ev s.t e, ev s.t e1, ev s.t e2] s.h (contQ K s d) := nr rfl
@[go_sem] theorem opQ_call7 {f : FuncId} {ts : Array TypeId} {a b c e e1 e2 e3 : Operand} : opQ P ⟨d, .call ⟨.value (.func f), #[a, b, c, e, e1, e2, e3], ts⟩, ty, pos, af, g⟩ s K = callQ P f [ev s.t a, ev s.t b, ev s.t c, ev s.t e, ev s.t e1, ev s.t e2, ev s.t e3] s.h (contQ K s d) := nr rfl
end

/-- The ones among the first k bits. -/
def popP (x : Nat) : Nat → Nat
  | 0 => 0
  | k + 1 => popP x k + (x >>> k) % 2
theorem popP_le (x : Nat) : ∀ k, popP x k ≤ k
  | 0 => Nat.le_refl 0
  | k + 1 => by have := popP_le x k; unfold popP; omega
theorem u8_shr_div {x k : Nat} (h : x < 256) : UInt8.ofNat (x >>> k) / 2 = UInt8.ofNat (x >>> (k + 1)) := by
  have h1 := Nat.shiftRight_le x k
  apply UInt8.toNat.inj
  rw [UInt8.toNat_div, UInt8.toNat_ofNat', UInt8.toNat_ofNat', Nat.mod_eq_of_lt (show x >>> k < 2 ^ 8 by omega), Nat.shiftRight_succ]
  exact (Nat.mod_eq_of_lt (Nat.lt_of_le_of_lt (Nat.div_le_self _ _) (by omega))).symm
theorem u8_shr_mod {x k : Nat} (h : x < 256) : (UInt8.ofNat (x >>> k) % 2).toNat = (x >>> k) % 2 := by
  have h1 := Nat.shiftRight_le x k
  rw [UInt8.toNat_mod, UInt8.toNat_ofNat', Nat.mod_eq_of_lt (show x >>> k < 2 ^ 8 by omega)]
  rfl
theorem u8_shr_pos {x k : Nat} (h : x < 256) (h2 : 0 < x >>> k) : decide ((0 : UInt8) < UInt8.ofNat (x >>> k)) = true := by
  have h1 := Nat.shiftRight_le x k
  apply decide_eq_true
  show (0 : UInt8).toNat < (UInt8.ofNat (x >>> k)).toNat
  rw [UInt8.toNat_ofNat', Nat.mod_eq_of_lt (by omega)]
  exact h2
/-- A byte's place in a text of 256. -/
theorem tab_ix {P : Program} {T : TypeId} (hu : P.underlying T = some .string) {s : ByteArray} {g : Nat → Nat} (x : UInt8) (hs : s.size = 256) (ht : ∀ n, n < 256 → s.data.getD n 0 = UInt8.ofNat (g n)) : indexA P T (.string s) (B x) = some (B (UInt8.ofNat (g x.toNat))) := by
  have hx := u8_lt x
  rw [ix_str_B hu, aidx_nat (by omega), chrC_some (by omega), ht _ hx]
end Go.Abs
