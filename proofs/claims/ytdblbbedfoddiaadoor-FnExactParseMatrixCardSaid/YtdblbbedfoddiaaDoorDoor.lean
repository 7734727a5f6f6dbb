/- What a walk is to know of the package-level variables: nothing, or what strings.Split reads. -/
import Derived.WalkKit
import Derived.WalkSpells
import Derived.Still
import Derived.Shelf.Vars
import Derived.Test.YtdblbbedfoddiaaDoorProg
namespace Go.Abs
set_option linter.unusedSimpArgs false
set_option linter.unusedVariables false
set_option maxRecDepth 20000
set_option maxHeartbeats 1000000

/-- The first rows of the heap, which hold the package-level variables that are known. -/
def doorN : Nat := 0 + 1
/-- What is known of them. -/
def doorOk (w : World) : Prop := ∃ m : Int, w.cell? ⟨0, 0, none⟩ = some (.int .i64 m)
theorem doorOk.keep {w w' : World} (h : doorOk w) (_ : w.heap.size ≤ w'.heap.size) (hs : ∀ i, i < doorN → w'.heap[i]? = w.heap[i]?) : doorOk w' := by
  obtain ⟨m, hm⟩ := h
  exact ⟨m, by rw [World.cell?_of_block (hs 0 (Nat.lt_succ_self _))]; exact hm⟩
theorem doorOk.lt {w : World} (h : doorOk w) : doorN ≤ w.heap.size := by
  obtain ⟨m, hm⟩ := h
  exact World.block_lt_of_cell? w _ hm
theorem doorOk.shaped {w : World} (h : w.ShapedOpen Go.Proofs.Tryd.prog) : doorOk w := Go.Proofs.cell_of_shapedOpen_int (zero := #[.int .i64 0]) (t := 3) h (of_decide_eq_true (by kernel_rfl)) (by kernel_rfl) rfl (by kernel_rfl) (by kernel_rfl) Go.Proofs.Tryd.underlying3
theorem doorOk.maxLen {w : World} (h : doorOk w) : ∃ m : Int, w.cell? ⟨0, 0, none⟩ = some (.int .i64 m) := h
attribute [irreducible] doorOk doorN
end Go.Abs
