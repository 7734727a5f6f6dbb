/- FnExactBranchNumber is proved: whatever the input, the law returns true and its arguments read as they did. No condition. -/
import Derived.Test.YtohcpednhmadkaaW55
namespace Go.Proofs.Ytohcpednhmadkaa
set_option linter.unusedSimpArgs false
set_option linter.unusedVariables false
set_option maxRecDepth 20000
set_option maxHeartbeats 1000000
open Go.Abs

theorem branchNumber_args (us : List Value) (bl : List Blk) (h : ArgsU Try.prog 0 [2, 24] us bl) : AC Try.prog 5 us bl (.bool true) bl := by
  obtain ⟨x0, us0, rfl, w0, h0⟩ := h.int (k := .i64) (by kernel_rfl)
  obtain ⟨f1, us1, rfl, h1⟩ := h0.bytes (m := 16) (by kernel_rfl) (by kernel_rfl)
  obtain ⟨rfl, rfl⟩ := h1.done
  exact branchNumber_ac x0 f1 []

set_option maxRecDepth 100000 in
set_option maxHeartbeats 1000000 in
theorem branchNumber_lifted (os : Os) (started : os.Started) (H : Type) (enc : TypeId × Value → H) :
    ReturnsInHanded {} Try.checked os 5 .any (Rows.fnExactBranchNumberSpec.pre6 enc Try.prog Try.f5 Rows.fnExactBranchNumberRow.domain false) (Rows.fnExactBranchNumberSpec.post enc Try.prog Try.f5 false true false false) :=
  frame_law (C := Try.checked) (by kernel_rfl) started (by kernel_rfl) Try.func5 (by kernel_rfl)
    (ChangeSpec.witness6 (enc := enc) (C := Try.checked) false ⟨#[], #[.int .i64 0, .agg (Array.replicate 16 (.int .u8 0))], []⟩ 8 (by kernel_rfl) (by kernel_rfl) (by kernel_rfl) (by kernel_rfl))
    rfl (fun ds h => by rw [Try.params5] at h; match ds, h with | [_, _], _ => rfl) (by rfl) Try.underlying4 (by rw [Try.params5]; kernel_rfl)
    (by rw [Try.params5]; exact branchNumber_args)

/-- ████ THE STATEMENT ████ -/
theorem branchNumber : Rows.FnExactBranchNumberSaid :=
  OpenClaim.holds_of_wide 5 Try.f5 rfl rfl rfl rfl rfl rfl rfl ⟨rfl, rfl, rfl, rfl, rfl⟩ rfl rfl rfl rfl rfl (by kernel_rfl) Try.func5 (by kernel_rfl)
    (of_decide_eq_true (by kernel_rfl)) (by unfold Func.isWrapper; first | (rw [if_pos (by decide +kernel)]; kernel_rfl) | (rw [if_neg (by decide +kernel)]; exact ⟨rfl, rfl⟩))
    (fun os started H enc _ => branchNumber_lifted os started H enc)
#print axioms branchNumber
end Go.Proofs.Ytohcpednhmadkaa
