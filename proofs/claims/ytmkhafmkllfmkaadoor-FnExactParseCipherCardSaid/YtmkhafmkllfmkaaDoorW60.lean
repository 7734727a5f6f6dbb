/- Draws: numbers that follow from a code. -/
import Derived.Test.YtmkhafmkllfmkaaDoorW6
import Derived.Test.YtmkhafmkllfmkaaDoorL2
import Derived.Test.YtmkhafmkllfmkaaDoorAbsX
namespace Go.Proofs.YtmkhafmkllfmkaaDoor
set_option linter.unusedSimpArgs false
set_option linter.unusedVariables false
set_option maxRecDepth 20000
set_option maxHeartbeats 1000000
open Go.Abs

/-- The code of a source: nil, or bytes in a block of their own. -/
inductive Cd (h : List Blk) (b : Nat) : Value → Nat → (Nat → UInt8) → Prop
  | nil (f : Nat → UInt8) : Cd h b (.slice none 0 0) 0 f
  | sl (f : Nat → UInt8) {bc n : Nat} {rc : Bool} (hb : h[bc]? = some ⟨Bs n f, rc⟩) (hne : bc ≠ b) : Cd h b (sl bc 0 n 1) n f
theorem Cd.set {h : List Blk} {b n : Nat} {cv : Value} {f : Nat → UInt8} (c : Cd h b cv n f) (x : Blk) : Cd (h.set b x) b cv n f := by
  cases c with
  | nil => exact .nil f
  | sl _ hb hne => exact .sl f (set_at hb hne.symm) hne
theorem Cd.app {h : List Blk} {b n : Nat} {cv : Value} {f : Nat → UInt8} (c : Cd h b cv n f) (L : List Blk) : Cd (h ++ L) b cv n f := by
  cases c with
  | nil => exact .nil f
  | sl _ hb hne => exact .sl f (look_old hb L) hne
/-- A source's block. -/
def Src (h : List Blk) (b : Nat) (cv : Value) (k : Blk) : Prop := ∃ (at' : Nat) (hs : Int) (n : Nat) (f : Nat → UInt8), k = ⟨Sr cv at' hs, true⟩ ∧ at' ≤ n ∧ n ≤ 4096 ∧ Cd h b cv n f
theorem Src.set {h : List Blk} {b : Nat} {cv : Value} {k : Blk} (s : Src h b cv k) (x : Blk) : Src (h.set b x) b cv k := by
  obtain ⟨a, hs, n, f, e, h1, h2, c⟩ := s
  exact ⟨a, hs, n, f, e, h1, h2, c.set x⟩
theorem Src.app {h : List Blk} {b : Nat} {cv : Value} {k : Blk} (s : Src h b cv k) (L : List Blk) : Src (h ++ L) b cv k := by
  obtain ⟨a, hs, n, f, e, h1, h2, c⟩ := s
  exact ⟨a, hs, n, f, e, h1, h2, c.app L⟩
theorem set_app {h : List Blk} {b : Nat} (hb : b < h.length) (x : Blk) (L : List Blk) : (h ++ L).set b x = h.set b x ++ L := List.set_append_left _ _ hb

def nxH (hs : Int) : Int := IntKind.u64.wrap (IntKind.u64.wrap (hs * 6364136223846793005) + 1442695040888963407)
theorem and24 (x : Int) : ∃ q : Nat, q < 16777216 ∧ bits .and .u64 x 16777215 = ((q : Nat) : Int) := by
  refine ⟨((BitVec.ofInt 64 x) &&& (BitVec.ofInt 64 16777215)).toNat, ?_, ?_⟩
  · rw [BitVec.toNat_and]
    have : (BitVec.ofInt 64 16777215).toNat = 16777215 := by decide
    rw [this]
    exact Nat.lt_of_le_of_lt Nat.and_le_right (by omega)
  · show IntKind.u64.wrap ((((BitVec.ofInt 64 x) &&& (BitVec.ofInt 64 16777215)).toNat : Nat) : Int) = _
    have h1 : ((BitVec.ofInt 64 x) &&& (BitVec.ofInt 64 16777215)).toNat < 2 ^ 64 := BitVec.isLt _
    exact wrap_u64 (by omega) (by omega)
end Go.Proofs.YtmkhafmkllfmkaaDoor
