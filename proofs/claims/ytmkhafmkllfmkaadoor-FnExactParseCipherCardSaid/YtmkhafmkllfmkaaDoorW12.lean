/- The house's box and cipher. -/
import Derived.Test.YtmkhafmkllfmkaaDoorW8
import Derived.Test.YtmkhafmkllfmkaaDoorW2
namespace Go.Proofs.YtmkhafmkllfmkaaDoor
set_option linter.unusedSimpArgs false
set_option linter.unusedVariables false
set_option maxRecDepth 20000
set_option maxHeartbeats 1000000
open Go.Abs

section
variable {P : Program} {T : TypeId}
/-- A byte shifted to the left. -/
theorem abin_shl_B (x : UInt8) (k : IntKind) {i : Nat} (hi : i ≤ 8) : abin P .shl T (B x) (.int k (i : Int)) = some (B (UInt8.ofNat (x.toNat <<< i))) := by
  show (if (i : Int) < 0 then none else some (Value.int .u8 (IntKind.u8.wrap ((x.toNat : Int) * 2 ^ (min (i : Int).toNat IntKind.u8.bits))))) = _
  rw [if_neg (by omega)]
  congr 1
  rw [show ((i : Int).toNat) = i from rfl, show IntKind.u8.bits = 8 from rfl, Nat.min_eq_left hi, pow_cast, ← Int.natCast_mul, Nat.shiftLeft_eq]
  rw [wrap_B, toB_nat]
end
def turnS (x : UInt8) (k : Nat) : UInt8 := UInt8.ofNat ((x.toNat <<< k ||| x.toNat <<< k >>> 8) &&& 255)
def turnI (x : UInt8) (k : Nat) : UInt8 := UInt8.ofNat (x.toNat <<< k) ||| UInt8.ofNat (x.toNat >>> (8 - k))
theorem turn_eq0 : ∀ n, n < 256 → turnS (UInt8.ofNat n) 0 = UInt8.ofNat n ∧ turnI (UInt8.ofNat n) 1 = turnS (UInt8.ofNat n) 1 ∧ turnI (UInt8.ofNat n) 4 = turnS (UInt8.ofNat n) 4 := by decide +kernel
theorem turn_eq (x : UInt8) : turnS x 0 = x ∧ turnI x 1 = turnS x 1 ∧ turnI x 4 = turnS x 4 := by
  have := turn_eq0 x.toNat (u8_lt x)
  simpa using this

/-- The box of a power. -/
def powF (m e : Nat) : Nat → UInt8 := fun i => po m (UInt8.ofNat i) e
def rotP (x c : UInt8) : Nat → UInt8
  | 0 => c
  | k + 1 => rotP x c k ^^^ turnS x ([0, 1, 4].getD k 0)
def rotF (c : UInt8) : Nat → UInt8 := fun i => rotP (UInt8.ofNat i) c 3
def thenF (p q : Nat → UInt8) : Nat → UInt8 := fun i => q (p i).toNat
def hBoxF : Nat → UInt8 := thenF (powF 285 254) (rotF 90)
def hBoxI (i : Nat) : UInt8 := inv 285 (UInt8.ofNat i) ^^^ turnI (inv 285 (UInt8.ofNat i)) 1 ^^^ turnI (inv 285 (UInt8.ofNat i)) 4 ^^^ 90
theorem hBox_eq (i : Nat) : hBoxI i = hBoxF i := by
  unfold hBoxI hBoxF thenF powF rotF
  show _ = rotP (UInt8.ofNat (inv 285 (UInt8.ofNat i)).toNat) 90 3
  generalize inv 285 (UInt8.ofNat i) = b
  have h := turn_eq b
  rw [UInt8.ofNat_toNat, h.2.1, h.2.2]
  show _ = ((90 ^^^ turnS b 0) ^^^ turnS b 1) ^^^ turnS b 4
  rw [h.1, UInt8.xor_comm _ 90]
  simp only [UInt8.xor_assoc]
def hMixF : Nat → UInt8 := fun n => inv 285 (UInt8.ofNat ((n / 4) ^^^ (4 + n % 4)))
theorem hMix_at {i j : Nat} (hj : j < 4) : inv 285 (UInt8.ofNat (i ^^^ (4 + j))) = hMixF (i * 4 + j) := by
  unfold hMixF; rw [show (i * 4 + j) / 4 = i by omega, show (i * 4 + j) % 4 = j by omega]
def hPlF : Nat → UInt8 := fun i => UInt8.ofNat ((13 * i + 4) % 16)
def zF : Nat → UInt8 := fun _ => 0
theorem Ci_splice0 (a0 : Int) (a1 a2 a3 : Nat → UInt8) (a4 x : Int) : splice (Ci a0 a1 a2 a3 a4) 0 [.int .i64 x] = Ci x a1 a2 a3 a4 := by
  rw [Ci_cut0, mid_splice (n := 1) (by simp) (by simp) (by simp)]; rfl
theorem Ci_splice4 (a0 : Int) (a1 a2 a3 : Nat → UInt8) (a4 x : Int) : splice (Ci a0 a1 a2 a3 a4) 289 [.int .i64 x] = Ci a0 a1 a2 a3 x := by
  have h := mid_splice (A := [.int .i64 a0] ++ (Bs 256 a1 ++ (Bs 16 a2 ++ Bs 16 a3))) (s := [.int .i64 a4]) (R := []) (x := [.int .i64 x]) (o := 289) (n := 1) (by simp [Bs_length]) (by simp) (by simp)
  simpa [Ci] using h
theorem splice_all {l x : List Value} (h : l.length = x.length) : splice l 0 x = x := by
  have := mid_splice (A := []) (s := l) (R := []) (x := x) (o := 0) (n := l.length) rfl rfl h.symm
  simpa using this
theorem Ci_splice_all (a0 : Int) (a1 a2 a3 : Nat → UInt8) (a4 : Int) (b0 : Int) (b1 b2 b3 : Nat → UInt8) (b4 : Int) : splice (Ci a0 a1 a2 a3 a4) 0 (Ci b0 b1 b2 b3 b4) = Ci b0 b1 b2 b3 b4 := splice_all (by simp [Ci_length])

end Go.Proofs.YtmkhafmkllfmkaaDoor
