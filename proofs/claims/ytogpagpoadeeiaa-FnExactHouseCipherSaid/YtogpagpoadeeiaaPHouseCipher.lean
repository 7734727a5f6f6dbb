/- FnExactHouseCipher is proved: whatever the input, the law returns true and its arguments read as they did. No condition. -/
import Derived.Test.YtogpagpoadeeiaaW13
namespace Go.Proofs.Ytogpagpoadeeiaa
set_option linter.unusedSimpArgs false
set_option linter.unusedVariables false
set_option maxRecDepth 20000
set_option maxHeartbeats 1000000
open Go.Abs

theorem houseCipherT_args (us : List Value) (bl : List Blk) (h : ArgsU Try.prog 0 [2] us bl) : AC Try.prog 10 us bl (.bool true) bl := by
  obtain ⟨x0, us0, rfl, w0, h0⟩ := h.int (k := .i64) (by kernel_rfl)
  obtain ⟨rfl, rfl⟩ := h0.done
  exact houseCipher_ac x0 []

set_option maxRecDepth 100000 in
set_option maxHeartbeats 1000000 in
theorem houseCipherT_lifted (os : Os) (started : os.Started) (H : Type) (enc : TypeId × Value → H) :
    ReturnsInHanded {} Try.checked os 10 .any (Rows.fnExactHouseCipherSpec.pre6 enc Try.prog Try.f10 Rows.fnExactHouseCipherRow.domain false) (Rows.fnExactHouseCipherSpec.post enc Try.prog Try.f10 false true false false) :=
  frame_law (C := Try.checked) (by kernel_rfl) started (by kernel_rfl) Try.func10 (by kernel_rfl)
    (ChangeSpec.witness6 (enc := enc) (C := Try.checked) false ⟨#[], #[.int .i64 0], []⟩ 8 (by kernel_rfl) (by kernel_rfl) (by kernel_rfl) (by kernel_rfl))
    rfl (fun ds h => by rw [Try.params10] at h; match ds, h with | [_], _ => rfl) (by rfl) Try.underlying4 (by rw [Try.params10]; kernel_rfl)
    (by rw [Try.params10]; exact houseCipherT_args)

/-- ████ THE STATEMENT ████ -/
theorem houseCipherT : Rows.FnExactHouseCipherSaid :=
  OpenClaim.holds_of_wide 10 Try.f10 rfl rfl rfl rfl rfl rfl rfl ⟨rfl, rfl, rfl, rfl, rfl⟩ rfl rfl rfl rfl rfl (by kernel_rfl) Try.func10 (by kernel_rfl)
    (of_decide_eq_true (by kernel_rfl)) (by unfold Func.isWrapper; first | (rw [if_pos (by decide +kernel)]; kernel_rfl) | (rw [if_neg (by decide +kernel)]; exact ⟨rfl, rfl⟩))
    (fun os started H enc _ => houseCipherT_lifted os started H enc)
#print axioms houseCipherT
end Go.Proofs.Ytogpagpoadeeiaa
