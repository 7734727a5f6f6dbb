/- Lists of numbers: the comparers and markers of the laws' package. -/
import Derived.Test.YtalbdgkbinndlaaDoorL1
namespace Go.Proofs.YtalbdgkbinndlaaDoor
set_option linter.unusedSimpArgs false
set_option linter.unusedVariables false
set_option maxRecDepth 20000
set_option maxHeartbeats 1000000
open Go.Abs

/-- The numbers from k on. -/
def mkI (k : Nat) : Nat → Int := fun i => ((k + i : Nat) : Int)
theorem mkI_eq (k i : Nat) : mkI k i = ((k + i : Nat) : Int) := rfl
theorem mkI_set (k j : Nat) (f : Nat → Int) : upd (pre j (mkI k) f) j ((k + j : Nat) : Int) = pre (j + 1) (mkI k) f := upd_pre j (mkI k) f
theorem Is_congr {n : Nat} {f g : Nat → Int} (h : ∀ i, i < n → f i = g i) : Is n f = Is n g := by
  unfold Is
  exact List.map_congr_left fun i hi => by rw [h i (List.mem_range.1 hi)]
theorem Is_pre (n : Nat) (f g : Nat → Int) : Is n (pre n f g) = Is n f := Is_congr fun i hi => if_pos hi
theorem Is_snoc {n : Nat} (f : Nat → Int) : Is n f ++ [.int .i64 (f n)] = Is (n + 1) f := by
  unfold Is; rw [List.range_succ, List.map_append]; rfl

theorem sub1 (v : Value) : sub [v] 0 1 = [v] := rfl
theorem lit1I (v : Value) : splice (repA [Value.int .i64 0] 1) (0 * 1) [v] = [v] := by rw [repA_one]; rfl

end Go.Proofs.YtalbdgkbinndlaaDoor
