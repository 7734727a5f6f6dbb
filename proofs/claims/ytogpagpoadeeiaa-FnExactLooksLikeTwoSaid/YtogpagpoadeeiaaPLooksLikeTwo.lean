/- FnExactLooksLikeTwo is proved: whatever the input, the law returns true and its arguments read as they did. No condition. -/
import Derived.Test.YtogpagpoadeeiaaW4
namespace Go.Proofs.Ytogpagpoadeeiaa
set_option linter.unusedSimpArgs false
set_option linter.unusedVariables false
set_option maxRecDepth 20000
set_option maxHeartbeats 1000000
open Go.Abs

theorem looksLikeTwo_args (us : List Value) (bl : List Blk) (h : ArgsU Try.prog 0 [22, 22, 22, 22] us bl) : AC Try.prog 5 us bl (.bool true) bl := by
  obtain ⟨f0, us0, rfl, h0⟩ := h.bytes (m := 16) (by kernel_rfl) (by kernel_rfl)
  obtain ⟨f1, us1, rfl, h1⟩ := h0.bytes (m := 16) (by kernel_rfl) (by kernel_rfl)
  obtain ⟨f2, us2, rfl, h2⟩ := h1.bytes (m := 16) (by kernel_rfl) (by kernel_rfl)
  obtain ⟨f3, us3, rfl, h3⟩ := h2.bytes (m := 16) (by kernel_rfl) (by kernel_rfl)
  obtain ⟨rfl, rfl⟩ := h3.done
  exact looksLikeTwo_ac f0 f1 f2 f3 []

set_option maxRecDepth 100000 in
set_option maxHeartbeats 1000000 in
theorem looksLikeTwo_lifted (os : Os) (started : os.Started) (H : Type) (enc : TypeId × Value → H) :
    ReturnsInHanded {} Try.checked os 5 .any (Rows.fnExactLooksLikeTwoSpec.pre6 enc Try.prog Try.f5 Rows.fnExactLooksLikeTwoRow.domain false) (Rows.fnExactLooksLikeTwoSpec.post enc Try.prog Try.f5 false true false false) :=
  frame_law (C := Try.checked) (by kernel_rfl) started (by kernel_rfl) Try.func5 (by kernel_rfl)
    (ChangeSpec.witness6 (enc := enc) (C := Try.checked) false ⟨#[], #[.agg (Array.replicate 16 (.int .u8 0)), .agg (Array.replicate 16 (.int .u8 0)), .agg (Array.replicate 16 (.int .u8 0)), .agg (Array.replicate 16 (.int .u8 0))], []⟩ 8 (by kernel_rfl) (by kernel_rfl) (by kernel_rfl) (by kernel_rfl))
    rfl (fun ds h => by rw [Try.params5] at h; match ds, h with | [_, _, _, _], _ => rfl) (by rfl) Try.underlying4 (by rw [Try.params5]; kernel_rfl)
    (by rw [Try.params5]; exact looksLikeTwo_args)

/-- ████ THE STATEMENT ████ -/
theorem looksLikeTwo : Rows.FnExactLooksLikeTwoSaid :=
  OpenClaim.holds_of_wide 5 Try.f5 rfl rfl rfl rfl rfl rfl rfl ⟨rfl, rfl, rfl, rfl, rfl⟩ rfl rfl rfl rfl rfl (by kernel_rfl) Try.func5 (by kernel_rfl)
    (of_decide_eq_true (by kernel_rfl)) (by unfold Func.isWrapper; first | (rw [if_pos (by decide +kernel)]; kernel_rfl) | (rw [if_neg (by decide +kernel)]; exact ⟨rfl, rfl⟩))
    (fun os started H enc _ => looksLikeTwo_lifted os started H enc)
#print axioms looksLikeTwo
end Go.Proofs.Ytogpagpoadeeiaa
