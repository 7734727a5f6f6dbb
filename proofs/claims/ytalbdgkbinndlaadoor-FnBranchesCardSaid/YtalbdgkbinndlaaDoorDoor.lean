/- What a walk is to know of the package-level variables: nothing, or what strings.Split and strconv read. -/
import Derived.WalkKit
import Derived.WalkSpells
import Derived.Still
import Derived.Shelf.Vars
import Derived.Test.YtalbdgkbinndlaaDoorProg
namespace Go.Abs
set_option linter.unusedSimpArgs false
set_option linter.unusedVariables false
set_option maxRecDepth 20000
set_option maxHeartbeats 1000000

def doorNA : Nat := 0 + 1
def doorNB : Nat := 0
def doorNC : Nat := 0
def doorND : Nat := 0
/-- The first rows of the heap, which hold the package-level variables that are known. -/
def doorN : Nat := max (max doorNA doorNB) (max doorNC doorND)
def doorA (w : World) : Prop := ∃ m : Int, w.cell? ⟨0, 0, none⟩ = some (.int .i64 m)
def doorB (_ : World) : Prop := True
def doorC (_ : World) : Prop := True
def doorD (_ : World) : Prop := True
/-- What is known of them. -/
def doorOk (w : World) : Prop := (doorA w ∧ doorB w) ∧ (doorC w ∧ doorD w)
theorem doorA.keep {w w' : World} (h : doorA w) (hs : ∀ i, i < doorNA → w'.heap[i]? = w.heap[i]?) : doorA w' := by
  obtain ⟨m, hm⟩ := h
  exact ⟨m, by rw [World.cell?_of_block (hs 0 (Nat.lt_succ_self _))]; exact hm⟩
theorem doorB.keep {w w' : World} (h : doorB w) (hs : ∀ i, i < doorNB → w'.heap[i]? = w.heap[i]?) : doorB w' := by
  trivial
theorem doorC.keep {w w' : World} (h : doorC w) (hs : ∀ i, i < doorNC → w'.heap[i]? = w.heap[i]?) : doorC w' := by
  trivial
theorem doorD.keep {w w' : World} (h : doorD w) (hs : ∀ i, i < doorND → w'.heap[i]? = w.heap[i]?) : doorD w' := by
  trivial
theorem doorA.lt {w : World} (h : doorA w) : doorNA ≤ w.heap.size := by
  obtain ⟨m, hm⟩ := h
  exact World.block_lt_of_cell? w _ hm
theorem doorB.lt {w : World} (h : doorB w) : doorNB ≤ w.heap.size := by
  exact Nat.zero_le _
theorem doorC.lt {w : World} (h : doorC w) : doorNC ≤ w.heap.size := by
  exact Nat.zero_le _
theorem doorD.lt {w : World} (h : doorD w) : doorND ≤ w.heap.size := by
  exact Nat.zero_le _
theorem doorOk.keep {w w' : World} (h : doorOk w) (_ : w.heap.size ≤ w'.heap.size) (hs : ∀ i, i < doorN → w'.heap[i]? = w.heap[i]?) : doorOk w' :=
  ⟨⟨h.1.1.keep fun i hi => hs i (by unfold doorN; omega), h.1.2.keep fun i hi => hs i (by unfold doorN; omega)⟩, h.2.1.keep fun i hi => hs i (by unfold doorN; omega), h.2.2.keep fun i hi => hs i (by unfold doorN; omega)⟩
theorem doorOk.lt {w : World} (h : doorOk w) : doorN ≤ w.heap.size := by
  have h1 := h.1.1.lt
  have h2 := h.1.2.lt
  have h3 := h.2.1.lt
  have h4 := h.2.2.lt
  unfold doorN; omega
theorem doorA.shaped {w : World} (h : w.ShapedOpen Go.Proofs.Tryd.prog) : doorA w := Go.Proofs.cell_of_shapedOpen_int (zero := #[.int .i64 0]) (t := 3) h (of_decide_eq_true (by kernel_rfl)) (by kernel_rfl) rfl (by kernel_rfl) (by kernel_rfl) Go.Proofs.Tryd.underlying3
theorem doorOk.mk {w : World} (h : w.ShapedOpen Go.Proofs.Tryd.prog) (hb : doorB w) (hc : doorC w) (hd : doorD w) : doorOk w := ⟨⟨doorA.shaped h, hb⟩, hc, hd⟩
theorem doorOk.maxLen {w : World} (h : doorOk w) : ∃ m : Int, w.cell? ⟨0, 0, none⟩ = some (.int .i64 m) := h.1.1
attribute [irreducible] doorOk doorN
end Go.Abs
