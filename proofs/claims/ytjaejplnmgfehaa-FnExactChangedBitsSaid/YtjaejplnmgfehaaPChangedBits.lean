/- FnExactChangedBits is proved: whatever the input, the law returns true and its arguments read as they did. No condition. -/
import Derived.Test.YtjaejplnmgfehaaW50
import Derived.Test.YtjaejplnmgfehaaArgs
namespace Go.Proofs.Ytjaejplnmgfehaa
set_option linter.unusedSimpArgs false
set_option linter.unusedVariables false
set_option maxRecDepth 20000
set_option maxHeartbeats 1000000
open Go.Abs

theorem changedBits_args (us : List Value) (bl : List Blk) (h : ArgsU Try.prog 0 [43, 28, 28, 2] us bl) : AC Try.prog 13 us bl (.bool true) bl := by
  obtain ⟨m0, bx0, mx0, pl0, r0, us0, rfl, h0⟩ := h.cipher (by kernel_rfl) (by kernel_rfl)
  obtain ⟨f1, us1, rfl, h1⟩ := h0.bytes (m := 16) (by kernel_rfl) (by kernel_rfl)
  obtain ⟨f2, us2, rfl, h2⟩ := h1.bytes (m := 16) (by kernel_rfl) (by kernel_rfl)
  obtain ⟨x3, us3, rfl, w3, h3⟩ := h2.int (k := .i64) (by kernel_rfl)
  obtain ⟨rfl, rfl⟩ := h3.done
  exact changedBits_ac m0 r0 bx0 mx0 pl0 f1 f2 x3 []

set_option maxRecDepth 100000 in
set_option maxHeartbeats 1000000 in
theorem changedBits_lifted (os : Os) (started : os.Started) (H : Type) (enc : TypeId × Value → H) :
    ReturnsInHanded {} Try.checked os 13 .any (Rows.fnExactChangedBitsSpec.pre6 enc Try.prog Try.f13 Rows.fnExactChangedBitsRow.domain false) (Rows.fnExactChangedBitsSpec.post enc Try.prog Try.f13 false true false false) :=
  frame_law (C := Try.checked) (by kernel_rfl) started (by kernel_rfl) Try.func13 (by kernel_rfl)
    (ChangeSpec.witness6 (enc := enc) (C := Try.checked) false ⟨#[], #[.agg (#[.int .i64 0] ++ Array.replicate 288 (.int .u8 0) ++ #[.int .i64 0]), .agg (Array.replicate 16 (.int .u8 0)), .agg (Array.replicate 16 (.int .u8 0)), .int .i64 0], []⟩ 8 (by kernel_rfl) (by kernel_rfl) (by kernel_rfl) (by kernel_rfl))
    rfl (fun ds h => by rw [Try.params13] at h; match ds, h with | [_, _, _, _], _ => rfl) (by rfl) Try.underlying4 (by rw [Try.params13]; kernel_rfl)
    (by rw [Try.params13]; exact changedBits_args)

/-- ████ THE STATEMENT ████ -/
theorem changedBits : Rows.FnExactChangedBitsSaid :=
  OpenClaim.holds_of_wide 13 Try.f13 rfl rfl rfl rfl rfl rfl rfl ⟨rfl, rfl, rfl, rfl, rfl⟩ rfl rfl rfl rfl rfl (by kernel_rfl) Try.func13 (by kernel_rfl)
    (of_decide_eq_true (by kernel_rfl)) (by unfold Func.isWrapper; first | (rw [if_pos (by decide +kernel)]; kernel_rfl) | (rw [if_neg (by decide +kernel)]; exact ⟨rfl, rfl⟩))
    (fun os started H enc _ => changedBits_lifted os started H enc)
#print axioms changedBits
end Go.Proofs.Ytjaejplnmgfehaa
