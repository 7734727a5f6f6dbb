/- FnExactEncipherAll is proved: whatever the input, the law returns true and its arguments read as they did. No condition. -/
import Derived.Test.YtjaejplnmgfehaaW48E
import Derived.Test.YtjaejplnmgfehaaArgs
namespace Go.Proofs.Ytjaejplnmgfehaa
set_option linter.unusedSimpArgs false
set_option linter.unusedVariables false
set_option maxRecDepth 20000
set_option maxHeartbeats 1000000
open Go.Abs

theorem encipherAll_args (us : List Value) (bl : List Blk) (h : ArgsU Try.prog 0 [43, 28, 69] us bl) : AC Try.prog 12 us bl (.bool true) bl := by
  obtain ⟨m0, bx0, mx0, pl0, r0, us0, rfl, h0⟩ := h.cipher (by kernel_rfl) (by kernel_rfl)
  obtain ⟨f1, us1, rfl, h1⟩ := h0.bytes (m := 16) (by kernel_rfl) (by kernel_rfl)
  rcases h1.list (m := 16) (e := 28) (by kernel_rfl) (by kernel_rfl) with ⟨us2, rfl, h2⟩ | ⟨n2, f2, us2, bl2, rfl, rfl, hn2, h2⟩
  · obtain ⟨rfl, rfl⟩ := h2.done
    exact encipherAll_nil m0 r0 bx0 mx0 pl0 f1 []
  · obtain ⟨rfl, rfl⟩ := h2.done
    rcases Nat.lt_or_ge 1048576 n2 with hl | hl
    · exact encipherAll_big m0 r0 bx0 mx0 pl0 f1 hl (by have : maxLen = 9223372036854775807 := rfl; omega)
    · exact encipherAll_ac m0 r0 bx0 mx0 pl0 f1 rfl hl

set_option maxRecDepth 100000 in
set_option maxHeartbeats 1000000 in
theorem encipherAll_lifted (os : Os) (started : os.Started) (H : Type) (enc : TypeId × Value → H) :
    ReturnsInHanded {} Try.checked os 12 .any (Rows.fnExactEncipherAllSpec.pre6 enc Try.prog Try.f12 Rows.fnExactEncipherAllRow.domain false) (Rows.fnExactEncipherAllSpec.post enc Try.prog Try.f12 false true false false) :=
  frame_law (C := Try.checked) (by kernel_rfl) started (by kernel_rfl) Try.func12 (by kernel_rfl)
    (ChangeSpec.witness6 (enc := enc) (C := Try.checked) false ⟨#[], #[.agg (#[.int .i64 0] ++ Array.replicate 288 (.int .u8 0) ++ #[.int .i64 0]), .agg (Array.replicate 16 (.int .u8 0)), .slice none 0 0], []⟩ 8 (by kernel_rfl) (by kernel_rfl) (by kernel_rfl) (by kernel_rfl))
    rfl (fun ds h => by rw [Try.params12] at h; match ds, h with | [_, _, _], _ => rfl) (by rfl) Try.underlying4 (by rw [Try.params12]; kernel_rfl)
    (by rw [Try.params12]; exact encipherAll_args)

/-- ████ THE STATEMENT ████ -/
theorem encipherAll : Rows.FnExactEncipherAllSaid :=
  OpenClaim.holds_of_wide 12 Try.f12 rfl rfl rfl rfl rfl rfl rfl ⟨rfl, rfl, rfl, rfl, rfl⟩ rfl rfl rfl rfl rfl (by kernel_rfl) Try.func12 (by kernel_rfl)
    (of_decide_eq_true (by kernel_rfl)) (by unfold Func.isWrapper; first | (rw [if_pos (by decide +kernel)]; kernel_rfl) | (rw [if_neg (by decide +kernel)]; exact ⟨rfl, rfl⟩))
    (fun os started H enc _ => encipherAll_lifted os started H enc)
#print axioms encipherAll
end Go.Proofs.Ytjaejplnmgfehaa
