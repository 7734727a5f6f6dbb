/- FnExactIsCipher is proved: whatever the input, the law returns true and its arguments read as they did. No condition. -/
import Derived.Test.YtohcpednhmadkaaW31
import Derived.Test.YtohcpednhmadkaaArgs
namespace Go.Proofs.Ytohcpednhmadkaa
set_option linter.unusedSimpArgs false
set_option linter.unusedVariables false
set_option maxRecDepth 20000
set_option maxHeartbeats 1000000
open Go.Abs

theorem isCipher_args (us : List Value) (bl : List Blk) (h : ArgsU Try.prog 0 [40] us bl) : AC Try.prog 6 us bl (.bool true) bl := by
  obtain ⟨m0, bx0, mx0, pl0, r0, us0, rfl, h0⟩ := h.cipher (by kernel_rfl) (by kernel_rfl)
  obtain ⟨rfl, rfl⟩ := h0.done
  exact isCipher_ac m0 r0 bx0 mx0 pl0 []

set_option maxRecDepth 100000 in
set_option maxHeartbeats 1000000 in
theorem isCipher_lifted (os : Os) (started : os.Started) (H : Type) (enc : TypeId × Value → H) :
    ReturnsInHanded {} Try.checked os 6 .any (Rows.fnExactIsCipherSpec.pre6 enc Try.prog Try.f6 Rows.fnExactIsCipherRow.domain false) (Rows.fnExactIsCipherSpec.post enc Try.prog Try.f6 false true false false) :=
  frame_law (C := Try.checked) (by kernel_rfl) started (by kernel_rfl) Try.func6 (by kernel_rfl)
    (ChangeSpec.witness6 (enc := enc) (C := Try.checked) false ⟨#[], #[.agg (#[.int .i64 0] ++ Array.replicate 288 (.int .u8 0) ++ #[.int .i64 0])], []⟩ 8 (by kernel_rfl) (by kernel_rfl) (by kernel_rfl) (by kernel_rfl))
    rfl (fun ds h => by rw [Try.params6] at h; match ds, h with | [_], _ => rfl) (by rfl) Try.underlying4 (by rw [Try.params6]; kernel_rfl)
    (by rw [Try.params6]; exact isCipher_args)

/-- ████ THE STATEMENT ████ -/
theorem isCipher : Rows.FnExactIsCipherSaid :=
  OpenClaim.holds_of_wide 6 Try.f6 rfl rfl rfl rfl rfl rfl rfl ⟨rfl, rfl, rfl, rfl, rfl⟩ rfl rfl rfl rfl rfl (by kernel_rfl) Try.func6 (by kernel_rfl)
    (of_decide_eq_true (by kernel_rfl)) (by unfold Func.isWrapper; first | (rw [if_pos (by decide +kernel)]; kernel_rfl) | (rw [if_neg (by decide +kernel)]; exact ⟨rfl, rfl⟩))
    (fun os started H enc _ => isCipher_lifted os started H enc)
#print axioms isCipher
end Go.Proofs.Ytohcpednhmadkaa
