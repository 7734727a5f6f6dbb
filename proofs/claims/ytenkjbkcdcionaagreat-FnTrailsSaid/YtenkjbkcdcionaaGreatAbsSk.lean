/- One reckoning told once. Generic: no program in sight. -/
import Derived.Test.YtenkjbkcdcionaaGreatAbsSh
namespace Go.Abs
set_option linter.unusedSimpArgs false
set_option linter.unusedVariables false
set_option maxRecDepth 20000
set_option maxHeartbeats 1000000
theorem sU {A B E : Prop} (e : E) (hB : B) (h : E → Bx B → A := by
  intro e hB
  try simp (maxSteps := 1000000) (disch := first | omega | rfl | decide | (simp only [List.length_cons, List.length_nil, List.length_append, Bs_length, Is_length, Vs_length, Bl_length, Il_length] <;> omega)) only [go_sem, Nat.reduceAdd, Int.reduceAdd, Int.reduceSub, Int.reduceMul, Bool.not_true, Bool.not_false, bne_self_eq_false, beq_self_eq_true, decide_true, decide_false, if_true, if_false, Bool.false_eq_true, e]
  exact hB.out) : A := h e ⟨hB⟩
end Go.Abs
