/- FnExactReverseKeys is proved: whatever the input, the law returns true and its arguments read as they did. No condition. -/
import Derived.Test.YtogpagpoadeeiaaW20
namespace Go.Proofs.Ytogpagpoadeeiaa
set_option linter.unusedSimpArgs false
set_option linter.unusedVariables false
set_option maxRecDepth 20000
set_option maxHeartbeats 1000000
open Go.Abs

theorem reverseKeys_args (us : List Value) (bl : List Blk) (h : ArgsU Try.prog 0 [31] us bl) : AC Try.prog 7 us bl (.bool true) bl := by
  rcases h.list (m := 8) (e := 76) (by kernel_rfl) (by kernel_rfl) with ⟨us1, rfl, h1⟩ | ⟨n1, f1, us1, bl1, rfl, rfl, hn1, h1⟩
  · obtain ⟨rfl, rfl⟩ := h1.done
    exact reverseKeys_nil
  · obtain ⟨rfl, rfl⟩ := h1.done
    rcases Nat.lt_or_ge 1048576 n1 with hl | hl
    · exact reverseKeys_big hl (by have : maxLen = 9223372036854775807 := rfl; omega)
    · rcases Nat.lt_or_ge 40 n1 with hl2 | hl2
      · exact reverseKeys_long rfl hl2 hl
      · exact reverseKeys_ac rfl hl2

set_option maxRecDepth 100000 in
set_option maxHeartbeats 1000000 in
theorem reverseKeys_lifted (os : Os) (started : os.Started) (H : Type) (enc : TypeId × Value → H) :
    ReturnsInHanded {} Try.checked os 7 .any (Rows.fnExactReverseKeysSpec.pre6 enc Try.prog Try.f7 Rows.fnExactReverseKeysRow.domain false) (Rows.fnExactReverseKeysSpec.post enc Try.prog Try.f7 false true false false) :=
  frame_law (C := Try.checked) (by kernel_rfl) started (by kernel_rfl) Try.func7 (by kernel_rfl)
    (ChangeSpec.witness6 (enc := enc) (C := Try.checked) false ⟨#[], #[.slice none 0 0], []⟩ 8 (by kernel_rfl) (by kernel_rfl) (by kernel_rfl) (by kernel_rfl))
    rfl (fun ds h => by rw [Try.params7] at h; match ds, h with | [_], _ => rfl) (by rfl) Try.underlying4 (by rw [Try.params7]; kernel_rfl)
    (by rw [Try.params7]; exact reverseKeys_args)

/-- ████ THE STATEMENT ████ -/
theorem reverseKeys : Rows.FnExactReverseKeysSaid :=
  OpenClaim.holds_of_wide 7 Try.f7 rfl rfl rfl rfl rfl rfl rfl ⟨rfl, rfl, rfl, rfl, rfl⟩ rfl rfl rfl rfl rfl (by kernel_rfl) Try.func7 (by kernel_rfl)
    (of_decide_eq_true (by kernel_rfl)) (by unfold Func.isWrapper; first | (rw [if_pos (by decide +kernel)]; kernel_rfl) | (rw [if_neg (by decide +kernel)]; exact ⟨rfl, rfl⟩))
    (fun os started H enc _ => reverseKeys_lifted os started H enc)
#print axioms reverseKeys
end Go.Proofs.Ytogpagpoadeeiaa
