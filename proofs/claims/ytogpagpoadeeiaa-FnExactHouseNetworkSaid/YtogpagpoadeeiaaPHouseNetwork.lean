/- FnExactHouseNetwork is proved: whatever the input, the law returns true and its arguments read as they did. No condition. -/
import Derived.Test.YtogpagpoadeeiaaW13
namespace Go.Proofs.Ytogpagpoadeeiaa
set_option linter.unusedSimpArgs false
set_option linter.unusedVariables false
set_option maxRecDepth 20000
set_option maxHeartbeats 1000000
open Go.Abs

theorem houseNetworkT_args (us : List Value) (bl : List Blk) (h : ArgsU Try.prog 0 [2, 2] us bl) : AC Try.prog 9 us bl (.bool true) bl := by
  obtain ⟨x0, us0, rfl, w0, h0⟩ := h.int (k := .i64) (by kernel_rfl)
  obtain ⟨x1, us1, rfl, w1, h1⟩ := h0.int (k := .i64) (by kernel_rfl)
  obtain ⟨rfl, rfl⟩ := h1.done
  exact houseNetwork_ac x0 x1 []

set_option maxRecDepth 100000 in
set_option maxHeartbeats 1000000 in
theorem houseNetworkT_lifted (os : Os) (started : os.Started) (H : Type) (enc : TypeId × Value → H) :
    ReturnsInHanded {} Try.checked os 9 .any (Rows.fnExactHouseNetworkSpec.pre6 enc Try.prog Try.f9 Rows.fnExactHouseNetworkRow.domain false) (Rows.fnExactHouseNetworkSpec.post enc Try.prog Try.f9 false true false false) :=
  frame_law (C := Try.checked) (by kernel_rfl) started (by kernel_rfl) Try.func9 (by kernel_rfl)
    (ChangeSpec.witness6 (enc := enc) (C := Try.checked) false ⟨#[], #[.int .i64 0, .int .i64 0], []⟩ 8 (by kernel_rfl) (by kernel_rfl) (by kernel_rfl) (by kernel_rfl))
    rfl (fun ds h => by rw [Try.params9] at h; match ds, h with | [_, _], _ => rfl) (by rfl) Try.underlying4 (by rw [Try.params9]; kernel_rfl)
    (by rw [Try.params9]; exact houseNetworkT_args)

/-- ████ THE STATEMENT ████ -/
theorem houseNetworkT : Rows.FnExactHouseNetworkSaid :=
  OpenClaim.holds_of_wide 9 Try.f9 rfl rfl rfl rfl rfl rfl rfl ⟨rfl, rfl, rfl, rfl, rfl⟩ rfl rfl rfl rfl rfl (by kernel_rfl) Try.func9 (by kernel_rfl)
    (of_decide_eq_true (by kernel_rfl)) (by unfold Func.isWrapper; first | (rw [if_pos (by decide +kernel)]; kernel_rfl) | (rw [if_neg (by decide +kernel)]; exact ⟨rfl, rfl⟩))
    (fun os started H enc _ => houseNetworkT_lifted os started H enc)
#print axioms houseNetworkT
end Go.Proofs.Ytogpagpoadeeiaa
