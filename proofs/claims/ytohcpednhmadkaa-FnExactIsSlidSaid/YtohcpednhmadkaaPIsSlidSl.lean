/- FnExactIsSlid is proved: whatever the input, the law returns true and its arguments read as they did. No condition. -/
import Derived.Test.YtohcpednhmadkaaW37Sl
import Derived.Test.YtohcpednhmadkaaArgs
namespace Go.Proofs.Ytohcpednhmadkaa
set_option linter.unusedSimpArgs false
set_option linter.unusedVariables false
set_option maxRecDepth 20000
set_option maxHeartbeats 1000000
open Go.Abs

theorem isSlid_args (us : List Value) (bl : List Blk) (h : ArgsU Try.prog 0 [26, 55, 38, 38] us bl) : AC Try.prog 14 us bl (.bool true) bl := by
  obtain ⟨m0, bx0, mx0, kd0, r0, us0, rfl, h0⟩ := h.network (by kernel_rfl) (by kernel_rfl)
  obtain ⟨f1, us1, rfl, h1⟩ := h0.bytes (m := 8) (by kernel_rfl) (by kernel_rfl)
  obtain ⟨f2, us2, rfl, h2⟩ := h1.bytes (m := 16) (by kernel_rfl) (by kernel_rfl)
  obtain ⟨f3, us3, rfl, h3⟩ := h2.bytes (m := 16) (by kernel_rfl) (by kernel_rfl)
  obtain ⟨rfl, rfl⟩ := h3.done
  exact isSlid_ac m0 kd0 r0 bx0 mx0 f1 f2 f3 []

set_option maxRecDepth 100000 in
set_option maxHeartbeats 1000000 in
theorem isSlid_lifted (os : Os) (started : os.Started) (H : Type) (enc : TypeId × Value → H) :
    ReturnsInHanded {} Try.checked os 14 .any (Rows.fnExactIsSlidSpec.pre6 enc Try.prog Try.f14 Rows.fnExactIsSlidRow.domain false) (Rows.fnExactIsSlidSpec.post enc Try.prog Try.f14 false true false false) :=
  frame_law (C := Try.checked) (by kernel_rfl) started (by kernel_rfl) Try.func14 (by kernel_rfl)
    (ChangeSpec.witness6 (enc := enc) (C := Try.checked) false ⟨#[], #[.agg (#[.int .i64 0] ++ Array.replicate 272 (.int .u8 0) ++ #[.int .i64 0, .int .i64 0]), .agg (Array.replicate 8 (.int .u8 0)), .agg (Array.replicate 16 (.int .u8 0)), .agg (Array.replicate 16 (.int .u8 0))], []⟩ 8 (by kernel_rfl) (by kernel_rfl) (by kernel_rfl) (by kernel_rfl))
    rfl (fun ds h => by rw [Try.params14] at h; match ds, h with | [_, _, _, _], _ => rfl) (by rfl) Try.underlying4 (by rw [Try.params14]; kernel_rfl)
    (by rw [Try.params14]; exact isSlid_args)

/-- ████ THE STATEMENT ████ -/
theorem isSlid : Rows.FnExactIsSlidSaid :=
  OpenClaim.holds_of_wide 14 Try.f14 rfl rfl rfl rfl rfl rfl rfl ⟨rfl, rfl, rfl, rfl, rfl⟩ rfl rfl rfl rfl rfl (by kernel_rfl) Try.func14 (by kernel_rfl)
    (of_decide_eq_true (by kernel_rfl)) (by unfold Func.isWrapper; first | (rw [if_pos (by decide +kernel)]; kernel_rfl) | (rw [if_neg (by decide +kernel)]; exact ⟨rfl, rfl⟩))
    (fun os started H enc _ => isSlid_lifted os started H enc)
#print axioms isSlid
end Go.Proofs.Ytohcpednhmadkaa
