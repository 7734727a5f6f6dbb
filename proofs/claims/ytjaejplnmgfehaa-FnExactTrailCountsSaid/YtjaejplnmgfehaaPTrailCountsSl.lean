/- FnExactTrailCounts is proved: whatever the input, the law returns true and its arguments read as they did. No condition. -/
import Derived.Test.YtjaejplnmgfehaaW52Sl
import Derived.Test.YtjaejplnmgfehaaArgs
namespace Go.Proofs.Ytjaejplnmgfehaa
set_option linter.unusedSimpArgs false
set_option linter.unusedVariables false
set_option maxRecDepth 20000
set_option maxHeartbeats 1000000
open Go.Abs

theorem trailCounts_args (us : List Value) (bl : List Blk) (h : ArgsU Try.prog 0 [43, 69] us bl) : AC Try.prog 14 us bl (.bool true) bl := by
  obtain ⟨m0, bx0, mx0, pl0, r0, us0, rfl, h0⟩ := h.cipher (by kernel_rfl) (by kernel_rfl)
  rcases h0.list (m := 16) (e := 28) (by kernel_rfl) (by kernel_rfl) with ⟨us2, rfl, h2⟩ | ⟨n2, f2, us2, bl2, rfl, rfl, hn2, h2⟩
  · obtain ⟨rfl, rfl⟩ := h2.done
    exact trailCounts_nil m0 r0 bx0 mx0 pl0 []
  · obtain ⟨rfl, rfl⟩ := h2.done
    rcases Nat.lt_or_ge 1048576 n2 with hl | hl
    · exact trailCounts_big m0 r0 bx0 mx0 pl0 hl (by have : maxLen = 9223372036854775807 := rfl; omega)
    · exact trailCounts_ac m0 r0 bx0 mx0 pl0 rfl hl

set_option maxRecDepth 100000 in
set_option maxHeartbeats 1000000 in
theorem trailCounts_lifted (os : Os) (started : os.Started) (H : Type) (enc : TypeId × Value → H) :
    ReturnsInHanded {} Try.checked os 14 .any (Rows.fnExactTrailCountsSpec.pre6 enc Try.prog Try.f14 Rows.fnExactTrailCountsRow.domain false) (Rows.fnExactTrailCountsSpec.post enc Try.prog Try.f14 false true false false) :=
  frame_law (C := Try.checked) (by kernel_rfl) started (by kernel_rfl) Try.func14 (by kernel_rfl)
    (ChangeSpec.witness6 (enc := enc) (C := Try.checked) false ⟨#[], #[.agg (#[.int .i64 0] ++ Array.replicate 288 (.int .u8 0) ++ #[.int .i64 0]), .slice none 0 0], []⟩ 8 (by kernel_rfl) (by kernel_rfl) (by kernel_rfl) (by kernel_rfl))
    rfl (fun ds h => by rw [Try.params14] at h; match ds, h with | [_, _], _ => rfl) (by rfl) Try.underlying4 (by rw [Try.params14]; kernel_rfl)
    (by rw [Try.params14]; exact trailCounts_args)

/-- ████ THE STATEMENT ████ -/
theorem trailCounts : Rows.FnExactTrailCountsSaid :=
  OpenClaim.holds_of_wide 14 Try.f14 rfl rfl rfl rfl rfl rfl rfl ⟨rfl, rfl, rfl, rfl, rfl⟩ rfl rfl rfl rfl rfl (by kernel_rfl) Try.func14 (by kernel_rfl)
    (of_decide_eq_true (by kernel_rfl)) (by unfold Func.isWrapper; first | (rw [if_pos (by decide +kernel)]; kernel_rfl) | (rw [if_neg (by decide +kernel)]; exact ⟨rfl, rfl⟩))
    (fun os started H enc _ => trailCounts_lifted os started H enc)
#print axioms trailCounts
end Go.Proofs.Ytjaejplnmgfehaa
