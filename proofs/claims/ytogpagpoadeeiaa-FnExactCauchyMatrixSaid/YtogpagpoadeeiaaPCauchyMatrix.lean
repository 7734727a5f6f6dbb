/- FnExactCauchyMatrix is proved: whatever the input, the law returns true and its arguments read as they did. No condition. -/
import Derived.Test.YtogpagpoadeeiaaW18
namespace Go.Proofs.Ytogpagpoadeeiaa
set_option linter.unusedSimpArgs false
set_option linter.unusedVariables false
set_option maxRecDepth 20000
set_option maxHeartbeats 1000000
open Go.Abs

theorem cauchyMatrix_args (us : List Value) (bl : List Blk) (h : ArgsU Try.prog 0 [2, 65, 65] us bl) : AC Try.prog 12 us bl (.bool true) bl := by
  obtain ⟨x0, us0, rfl, w0, h0⟩ := h.int (k := .i64) (by kernel_rfl)
  rcases h0.list (m := 1) (e := 5) (by kernel_rfl) (by kernel_rfl) with ⟨us1, rfl, h1⟩ | ⟨n1, f1, us1, bl1, rfl, rfl, hn1, h1⟩
  · rcases h1.list (m := 1) (e := 5) (by kernel_rfl) (by kernel_rfl) with ⟨us2, rfl, h2⟩ | ⟨n2, f2, us2, bl2, rfl, rfl, hn2, h2⟩
    · obtain ⟨rfl, rfl⟩ := h2.done
      exact @cauchyMatrix_NN x0 [] 0 0 0 0 zeroF zeroF true true
    · obtain ⟨rfl, rfl⟩ := h2.done
      rw [Nat.mul_one]
      rcases Nat.lt_or_ge 1048576 n2 with hl | hl
      · exact cauchyMatrix_NX (b := 0) (n := 0) (f := zeroF) (g := zeroF) (r := true) (r' := true) x0 hl
      · exact cauchyMatrix_NL (b := 0) (n := 0) (f := zeroF) (r := true) x0 rfl hl
  · rw [Nat.mul_one]
    rcases Nat.lt_or_ge 1048576 n1 with hl1 | hl1
    · rcases h1.list (m := 1) (e := 5) (by kernel_rfl) (by kernel_rfl) with ⟨us2, rfl, h2⟩ | ⟨n2, f2, us2, bl2, rfl, rfl, hn2, h2⟩ <;> obtain ⟨rfl, rfl⟩ := h2.done <;> exact cauchyMatrix_long x0 _ hl1
    · rcases h1.list (m := 1) (e := 5) (by kernel_rfl) (by kernel_rfl) with ⟨us2, rfl, h2⟩ | ⟨n2, f2, us2, bl2, rfl, rfl, hn2, h2⟩
      · obtain ⟨rfl, rfl⟩ := h2.done
        exact cauchyMatrix_LN (b' := 0) (n' := 0) (g := zeroF) (r' := true) x0 rfl hl1
      · obtain ⟨rfl, rfl⟩ := h2.done
        rw [Nat.mul_one]
        rcases Nat.lt_or_ge 1048576 n2 with hl | hl
        · exact cauchyMatrix_LX (g := zeroF) (r' := true) x0 rfl hl1 hl
        · exact cauchyMatrix_LL x0 rfl hl1 rfl hl

set_option maxRecDepth 100000 in
set_option maxHeartbeats 1000000 in
theorem cauchyMatrix_lifted (os : Os) (started : os.Started) (H : Type) (enc : TypeId × Value → H) :
    ReturnsInHanded {} Try.checked os 12 .any (Rows.fnExactCauchyMatrixSpec.pre6 enc Try.prog Try.f12 Rows.fnExactCauchyMatrixRow.domain false) (Rows.fnExactCauchyMatrixSpec.post enc Try.prog Try.f12 false true false false) :=
  frame_law (C := Try.checked) (by kernel_rfl) started (by kernel_rfl) Try.func12 (by kernel_rfl)
    (ChangeSpec.witness6 (enc := enc) (C := Try.checked) false ⟨#[], #[.int .i64 0, .slice none 0 0, .slice none 0 0], []⟩ 8 (by kernel_rfl) (by kernel_rfl) (by kernel_rfl) (by kernel_rfl))
    rfl (fun ds h => by rw [Try.params12] at h; match ds, h with | [_, _, _], _ => rfl) (by rfl) Try.underlying4 (by rw [Try.params12]; kernel_rfl)
    (by rw [Try.params12]; exact cauchyMatrix_args)

/-- ████ THE STATEMENT ████ -/
theorem cauchyMatrix : Rows.FnExactCauchyMatrixSaid :=
  OpenClaim.holds_of_wide 12 Try.f12 rfl rfl rfl rfl rfl rfl rfl ⟨rfl, rfl, rfl, rfl, rfl⟩ rfl rfl rfl rfl rfl (by kernel_rfl) Try.func12 (by kernel_rfl)
    (of_decide_eq_true (by kernel_rfl)) (by unfold Func.isWrapper; first | (rw [if_pos (by decide +kernel)]; kernel_rfl) | (rw [if_neg (by decide +kernel)]; exact ⟨rfl, rfl⟩))
    (fun os started H enc _ => cauchyMatrix_lifted os started H enc)
#print axioms cauchyMatrix
end Go.Proofs.Ytogpagpoadeeiaa
