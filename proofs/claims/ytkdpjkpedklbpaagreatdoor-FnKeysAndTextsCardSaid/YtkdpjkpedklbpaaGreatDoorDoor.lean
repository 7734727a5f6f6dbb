/- What a walk is to know of the package-level variables: nothing, or what strings.Split and strconv read. -/
import Derived.WalkKit
import Derived.WalkSpells
import Derived.Still
import Derived.Shelf.Vars
import Derived.Test.YtkdpjkpedklbpaaGreatDoorProg
import Derived.Lib.LaidTab
import Derived.Lib.ItoaNum
namespace Go.Abs
set_option linter.unusedSimpArgs false
set_option linter.unusedVariables false
set_option maxRecDepth 20000
set_option maxHeartbeats 1000000

def doorNA : Nat := 0 + 1
def doorNB : Nat := 5 + 1
def doorNC : Nat := 1 + 1
def doorND : Nat := 2 + 1
/-- The first rows of the heap, which hold the package-level variables that are known. -/
def doorN : Nat := max (max doorNA doorNB) (max doorNC doorND)
def doorA (w : World) : Prop := ∃ m : Int, w.cell? ⟨0, 0, none⟩ = some (.int .i64 m)
def doorB (w : World) : Prop := w.heap[5]?.isSome = true ∧ Lib.TabIs Go.Proofs.Tryz.prog w "internal/strconv.uint64pow10" .u64 Lib.pow10Tab
def doorC (w : World) : Prop := ∃ t p, w.cell? ⟨1, 0, none⟩ = some (.iface t p)
def doorD (w : World) : Prop := ∃ t p, w.cell? ⟨2, 0, none⟩ = some (.iface t p)
/-- What is known of them. -/
def doorOk (w : World) : Prop := (doorA w ∧ doorB w) ∧ (doorC w ∧ doorD w)
theorem doorA.keep {w w' : World} (h : doorA w) (hs : ∀ i, i < doorNA → w'.heap[i]? = w.heap[i]?) : doorA w' := by
  obtain ⟨m, hm⟩ := h
  exact ⟨m, by rw [World.cell?_of_block (hs 0 (Nat.lt_succ_self _))]; exact hm⟩
theorem doorB.keep {w w' : World} (h : doorB w) (hs : ∀ i, i < doorNB → w'.heap[i]? = w.heap[i]?) : doorB w' := by
  have e := hs 5 (Nat.lt_succ_self _)
  refine ⟨by rw [e]; exact h.1, ?_⟩
  have h2 := h.2
  unfold Lib.TabIs World.var? at h2 ⊢
  rw [show Go.Proofs.Tryz.prog.globalNamed "internal/strconv.uint64pow10" = some 5 by kernel_rfl, Option.bind_some] at h2 ⊢
  rw [e]; exact h2
theorem doorC.keep {w w' : World} (h : doorC w) (hs : ∀ i, i < doorNC → w'.heap[i]? = w.heap[i]?) : doorC w' := by
  obtain ⟨t, p, hm⟩ := h
  exact ⟨t, p, by rw [World.cell?_of_block (hs 1 (Nat.lt_succ_self _))]; exact hm⟩
theorem doorD.keep {w w' : World} (h : doorD w) (hs : ∀ i, i < doorND → w'.heap[i]? = w.heap[i]?) : doorD w' := by
  obtain ⟨t, p, hm⟩ := h
  exact ⟨t, p, by rw [World.cell?_of_block (hs 2 (Nat.lt_succ_self _))]; exact hm⟩
theorem doorA.lt {w : World} (h : doorA w) : doorNA ≤ w.heap.size := by
  obtain ⟨m, hm⟩ := h
  exact World.block_lt_of_cell? w _ hm
theorem doorB.lt {w : World} (h : doorB w) : doorNB ≤ w.heap.size := by
  rcases Nat.lt_or_ge 5 w.heap.size with hl | hl
  · exact hl
  · have h1 := h.1; rw [Array.getElem?_eq_none hl] at h1; cases h1
theorem doorC.lt {w : World} (h : doorC w) : doorNC ≤ w.heap.size := by
  obtain ⟨t, p, hm⟩ := h
  exact World.block_lt_of_cell? w _ hm
theorem doorD.lt {w : World} (h : doorD w) : doorND ≤ w.heap.size := by
  obtain ⟨t, p, hm⟩ := h
  exact World.block_lt_of_cell? w _ hm
theorem doorOk.keep {w w' : World} (h : doorOk w) (_ : w.heap.size ≤ w'.heap.size) (hs : ∀ i, i < doorN → w'.heap[i]? = w.heap[i]?) : doorOk w' :=
  ⟨⟨h.1.1.keep fun i hi => hs i (by unfold doorN; omega), h.1.2.keep fun i hi => hs i (by unfold doorN; omega)⟩, h.2.1.keep fun i hi => hs i (by unfold doorN; omega), h.2.2.keep fun i hi => hs i (by unfold doorN; omega)⟩
theorem doorOk.lt {w : World} (h : doorOk w) : doorN ≤ w.heap.size := by
  have h1 := h.1.1.lt
  have h2 := h.1.2.lt
  have h3 := h.2.1.lt
  have h4 := h.2.2.lt
  unfold doorN; omega
theorem doorA.shaped {w : World} (h : w.ShapedOpen Go.Proofs.Tryz.prog) : doorA w := Go.Proofs.cell_of_shapedOpen_int (zero := #[.int .i64 0]) (t := 3) h (of_decide_eq_true (by kernel_rfl)) (by kernel_rfl) rfl (by kernel_rfl) (by kernel_rfl) Go.Proofs.Tryz.underlying3
theorem doorOk.mk {w : World} (h : w.ShapedOpen Go.Proofs.Tryz.prog) (hb : doorB w) (hc : doorC w) (hd : doorD w) : doorOk w := ⟨⟨doorA.shaped h, hb⟩, hc, hd⟩
theorem doorOk.maxLen {w : World} (h : doorOk w) : ∃ m : Int, w.cell? ⟨0, 0, none⟩ = some (.int .i64 m) := h.1.1
theorem doorOk.pow10 {w : World} (h : doorOk w) : Lib.TabIs Go.Proofs.Tryz.prog w "internal/strconv.uint64pow10" .u64 Lib.pow10Tab := h.1.2.2
theorem doorB.of_tab {w : World} (h : Lib.TabIs Go.Proofs.Tryz.prog w "internal/strconv.uint64pow10" .u64 Lib.pow10Tab) : doorB w := by
  refine ⟨?_, h⟩
  unfold Lib.TabIs World.var? at h
  rw [show Go.Proofs.Tryz.prog.globalNamed "internal/strconv.uint64pow10" = some 5 by kernel_rfl, Option.bind_some] at h
  cases e : w.heap[5]? with
  | none => rw [e] at h; cases h
  | some o => rfl
theorem doorOk.errSyntax {w : World} (h : doorOk w) : ∃ t p, w.cell? ⟨1, 0, none⟩ = some (.iface t p) := h.2.1
theorem doorOk.errRange {w : World} (h : doorOk w) : ∃ t p, w.cell? ⟨2, 0, none⟩ = some (.iface t p) := h.2.2
attribute [irreducible] doorOk doorN
end Go.Abs
