/- FnExactInterpolateIn is proved: whatever the input, the law returns true and its arguments read as they did. No condition. -/
import Derived.Test.YtogpagpoadeeiaaW23
namespace Go.Proofs.Ytogpagpoadeeiaa
set_option linter.unusedSimpArgs false
set_option linter.unusedVariables false
set_option maxRecDepth 20000
set_option maxHeartbeats 1000000
open Go.Abs

theorem interpolateIn_args (us : List Value) (bl : List Blk) (h : ArgsU Try.prog 0 [2, 65, 65] us bl) : AC Try.prog 13 us bl (.bool true) bl := by
  obtain ⟨x0, us0, rfl, w0, h0⟩ := h.int (k := .i64) (by kernel_rfl)
  rcases h0.list (m := 1) (e := 5) (by kernel_rfl) (by kernel_rfl) with ⟨us1, rfl, h1⟩ | ⟨n1, f1, us1, bl1, rfl, rfl, hn1, h1⟩
  · rcases h1.list (m := 1) (e := 5) (by kernel_rfl) (by kernel_rfl) with ⟨us2, rfl, h2⟩ | ⟨n2, f2, us2, bl2, rfl, rfl, hn2, h2⟩
    · obtain ⟨rfl, rfl⟩ := h2.done
      cases hf : fieldB x0.toNat
      · exact interpolate_NN_e1 (b := 0) (b' := 0) (n := 0) (n' := 0) (f := zeroF) (g := zeroF) (r := true) (r' := true) x0 hf
      · exact interpolate_NN_e2 (b := 0) (b' := 0) (n := 0) (n' := 0) (f := zeroF) (g := zeroF) (r := true) (r' := true) x0 hf (.inl rfl)
    · obtain ⟨rfl, rfl⟩ := h2.done
      rw [Nat.mul_one]
      rcases Nat.lt_or_ge 1048576 n2 with hl | hl
      · exact interpolate_NX x0 hl
      · cases hf : fieldB x0.toNat
        · exact interpolate_NL_e1 (b := 0) (n := 0) (f := zeroF) (r := true) x0 rfl hl hf
        · exact interpolate_NL_e2 (b := 0) (n := 0) (f := zeroF) (r := true) x0 rfl hl hf (.inl rfl)
  · rw [Nat.mul_one]
    rcases Nat.lt_or_ge 1048576 n1 with hl1 | hl1
    · rcases h1.list (m := 1) (e := 5) (by kernel_rfl) (by kernel_rfl) with ⟨us2, rfl, h2⟩ | ⟨n2, f2, us2, bl2, rfl, rfl, hn2, h2⟩ <;> obtain ⟨rfl, rfl⟩ := h2.done <;> exact interpolate_long x0 _ hl1
    · rcases h1.list (m := 1) (e := 5) (by kernel_rfl) (by kernel_rfl) with ⟨us2, rfl, h2⟩ | ⟨n2, f2, us2, bl2, rfl, rfl, hn2, h2⟩
      · obtain ⟨rfl, rfl⟩ := h2.done
        cases hf : fieldB x0.toNat
        · exact interpolate_LN_e1 (b' := 0) (n' := 0) (g := zeroF) (r' := true) x0 rfl hl1 hf
        · exact interpolate_LN_e2 (b' := 0) (n' := 0) (g := zeroF) (r' := true) x0 rfl hl1 hf (by omega)
      · obtain ⟨rfl, rfl⟩ := h2.done
        rw [Nat.mul_one]
        rcases Nat.lt_or_ge 1048576 n2 with hl | hl
        · exact interpolate_LX x0 hl1 hl
        · cases hf : fieldB x0.toNat
          · exact interpolate_LL_e1 x0 rfl hl1 rfl hl hf
          · by_cases hbad : n1 = 0 ∨ 40 < n1 ∨ n2 ≠ n1
            · exact interpolate_LL_e2 x0 rfl hl1 rfl hl hf hbad
            · obtain rfl : n2 = n1 := by omega
              cases ht : twiceP f1 n2
              · exact interpolate_ok x0 hf rfl rfl (by omega) (by omega) ht
              · exact interpolate_e3 x0 hf rfl rfl (by omega) (by omega) ht

set_option maxRecDepth 100000 in
set_option maxHeartbeats 1000000 in
theorem interpolateIn_lifted (os : Os) (started : os.Started) (H : Type) (enc : TypeId × Value → H) :
    ReturnsInHanded {} Try.checked os 13 .any (Rows.fnExactInterpolateInSpec.pre6 enc Try.prog Try.f13 Rows.fnExactInterpolateInRow.domain false) (Rows.fnExactInterpolateInSpec.post enc Try.prog Try.f13 false true false false) :=
  frame_law (C := Try.checked) (by kernel_rfl) started (by kernel_rfl) Try.func13 (by kernel_rfl)
    (ChangeSpec.witness6 (enc := enc) (C := Try.checked) false ⟨#[], #[.int .i64 0, .slice none 0 0, .slice none 0 0], []⟩ 8 (by kernel_rfl) (by kernel_rfl) (by kernel_rfl) (by kernel_rfl))
    rfl (fun ds h => by rw [Try.params13] at h; match ds, h with | [_, _, _], _ => rfl) (by rfl) Try.underlying4 (by rw [Try.params13]; kernel_rfl)
    (by rw [Try.params13]; exact interpolateIn_args)

/-- ████ THE STATEMENT ████ -/
theorem interpolateIn : Rows.FnExactInterpolateInSaid :=
  OpenClaim.holds_of_wide 13 Try.f13 rfl rfl rfl rfl rfl rfl rfl ⟨rfl, rfl, rfl, rfl, rfl⟩ rfl rfl rfl rfl rfl (by kernel_rfl) Try.func13 (by kernel_rfl)
    (of_decide_eq_true (by kernel_rfl)) (by unfold Func.isWrapper; first | (rw [if_pos (by decide +kernel)]; kernel_rfl) | (rw [if_neg (by decide +kernel)]; exact ⟨rfl, rfl⟩))
    (fun os started H enc _ => interpolateIn_lifted os started H enc)
#print axioms interpolateIn
end Go.Proofs.Ytogpagpoadeeiaa
