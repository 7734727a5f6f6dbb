/- FnExactActiveBytes is proved: whatever the input, the law returns true and its argument reads as it did. No condition. -/
import Derived.Test.YtogpagpoadeeiaaT2
import Derived.Test.YtogpagpoadeeiaaAbsM
namespace Go.Proofs.Ytogpagpoadeeiaa
open Go.Abs

theorem act_args (us : List Value) (bl : List Blk) (h : ArgsU Try.prog 0 [22] us bl) : AC Try.prog 3 us bl (.bool true) bl := by
  obtain ⟨f, us1, rfl, h1⟩ := h.bytes (m := 16) (by kernel_rfl) (by kernel_rfl)
  obtain ⟨rfl, rfl⟩ := h1.done
  exact law_act f []

set_option maxRecDepth 100000 in
set_option maxHeartbeats 1000000 in
theorem activeBytes_lifted (os : Os) (started : os.Started) (H : Type) (enc : TypeId × Value → H) :
    ReturnsInHanded {} Try.checked os 3 .any (Rows.fnExactActiveBytesSpec.pre6 enc Try.prog Try.f3 Rows.fnExactActiveBytesRow.domain false) (Rows.fnExactActiveBytesSpec.post enc Try.prog Try.f3 false true false false) :=
  frame_law (C := Try.checked) (by kernel_rfl) started (by kernel_rfl) Try.func3 (by kernel_rfl)
    (ChangeSpec.witness6 (enc := enc) (C := Try.checked) false ⟨#[], #[.agg (Array.replicate 16 (.int .u8 0))], []⟩ 8 (by kernel_rfl) (by kernel_rfl) (by kernel_rfl) (by kernel_rfl))
    rfl (fun ds h => by rw [Try.params3] at h; match ds, h with | [_], _ => rfl) (by rfl) Try.underlying4 (by rw [Try.params3]; kernel_rfl)
    (by rw [Try.params3]; exact act_args)

/-- ████ THE STATEMENT ████ -/
theorem activeBytes : Rows.FnExactActiveBytesSaid :=
  OpenClaim.holds_of_wide 3 Try.f3 rfl rfl rfl rfl rfl rfl rfl ⟨rfl, rfl, rfl, rfl, rfl⟩ rfl rfl rfl rfl rfl (by kernel_rfl) Try.func3 (by kernel_rfl)
    (of_decide_eq_true (by kernel_rfl)) (by unfold Func.isWrapper; first | (rw [if_pos (by decide +kernel)]; kernel_rfl) | (rw [if_neg (by decide +kernel)]; exact ⟨rfl, rfl⟩))
    (fun os started H enc _ => activeBytes_lifted os started H enc)
#print axioms activeBytes
end Go.Proofs.Ytogpagpoadeeiaa
